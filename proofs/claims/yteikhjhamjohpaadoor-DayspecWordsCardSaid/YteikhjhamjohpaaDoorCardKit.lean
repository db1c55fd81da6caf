/-
  What the cards of this seat share: all arguments read again behind a call that only makes new memory; the witness's world, in which the listed variables lie.
-/
import Derived.Test.YteikhjhamjohpaaDoorCards
import Derived.Test.YteikhjhamjohpaaDoorTie
import Derived.Test.YteikhjhamjohpaaDoorOpens
import Derived.Carry
import Derived.ChangeOld
import Derived.ProofKit
import Derived.OpenShut
import Derived.Lay
import Derived.Deep.DeepHandedRow
set_option linter.unusedVariables false
namespace Go.Proofs.YteikhjhamjohpaaDoor
open Go.ChangeShapes Go.WideShapes Go.ChangeAt Go.RowKit

theorem own : ownKnob Tryd.prog.godebug = none := by kernel_rfl
theorem laidOut : laidOutB Tryd.prog = true := by kernel_rfl
def rowedAll (P : Program) (ts : List TypeId) : Bool := ts.all fun t => P.readableRec t && decide (t < P.types.size)
theorem trodAll_below {H : Type} {enc : TypeId × Value → H} {P : Program} (hl : laidOutB P = true) {W W' : World} (hb : Below W.heap.size W W') : ∀ {ts : List TypeId} {vs : List Value} {ds : List (DataW H)} {ps : List MemPlace}, rowedAll P ts = true →
    DataW.TrodAll enc P W 0 (fun _ => true) true ts vs ds ps → DataW.TrodAll enc P W' 0 (fun b => decide (b < W.heap.size)) true ts vs ds ps
  | [], [], [], ps, _, h => h
  | t :: ts, v :: vs, d :: ds, ps, hr, h => by
    obtain ⟨p, q, h1, h2, rfl⟩ := h
    simp only [rowedAll, List.all_cons, Bool.and_eq_true, decide_eq_true_eq] at hr
    have lt : ∀ x ∈ p, x.block < W.heap.size := by obtain ⟨m, hm⟩ := h1; exact DataW.trod_lt m _ _ _ hm
    exact ⟨p, q, Below.trod hl hr.1.1 hr.1.2 h1 hb lt, trodAll_below hl hb (by simpa [rowedAll] using hr.2) h2, rfl⟩

theorem array_val {P : Program} {w : World} {r : Reach} {base : Nat} {t e : TypeId} {n : Nat} {v : Value} (ht : P.underlying t = some (.array n e)) (h : Value.okWide P w r base t v) : ∃ cs, v = .agg cs ∧ cs.size = P.cellsOf t := by
  simp only [Value.okWide, ht] at h
  obtain ⟨cs, h1, h2, _⟩ := h
  exact ⟨cs, h1, h2⟩

set_option maxRecDepth 100000 in
/-- an argument that is an array of three bytes -/
theorem open_bytes3 {H : Type} {enc : TypeId × Value → H} {w : World} {r : Reach} {base : Nat} {v : Value} {d : DataW H} {p : List MemPlace} (hv : Value.okWide Tryd.prog w r base 31 v) (h : DataW.Trod enc Tryd.prog w 0 (fun _ => true) true 31 v d p) :
    ∃ a b c : Nat, v = .agg #[.int .u8 (a : Int), .int .u8 (b : Int), .int .u8 (c : Int)] ∧ a < 256 ∧ b < 256 ∧ c < 256 := by
  obtain ⟨cs, rfl, hsz⟩ := array_val Tryd.underlying31 hv
  obtain ⟨m, hm⟩ := h
  have hC : Tryd.prog.cellsOf 31 = 3 := by kernel_rfl
  have hc1 : Tryd.prog.cellsOf 5 = 1 := by kernel_rfl
  obtain ⟨xs, m', rfl, hx, hl, hxl, hall⟩ := DataW.trod_array Tryd.underlying31 hm
  have one : ∀ i, i < 3 → ∃ a : Nat, cs[i]? = some (.int .u8 (a : Int)) ∧ a < 256 := fun i hi => by
    have h1 := hall i hi
    rw [hc1, Nat.mul_one, List.getElem?_eq_getElem (by omega)] at h1
    obtain ⟨n, hn, _, hw⟩ := DataW.trod_int Tryd.underlying5 h1
    have hb := bounds_u8 hw
    obtain ⟨a, rfl⟩ := Int.eq_ofNat_of_zero_le hb.1
    refine ⟨a, ?_, by omega⟩
    have := one_at hn
    simpa [Value.cells] using this
  rw [hC] at hsz
  obtain ⟨a, ha, ha'⟩ := one 0 (by decide)
  obtain ⟨b, hb, hb'⟩ := one 1 (by decide)
  obtain ⟨c, hc, hc'⟩ := one 2 (by decide)
  refine ⟨a, b, c, ?_, ha', hb', hc'⟩
  congr 1
  apply Array.ext_getElem?
  intro i
  rcases (by omega : i = 0 ∨ i = 1 ∨ i = 2 ∨ 3 ≤ i) with rfl | rfl | rfl | hi
  · exact ha
  · exact hb
  · exact hc
  · rw [Array.getElem?_eq_none (by omega), Array.getElem?_eq_none (by simpa using hi)]
end Go.Proofs.YteikhjhamjohpaaDoor
