/-
  The rules of drafts: what Made returns.
-/
import Derived.Test.YtmcgbjjcpcgcfaaGreatDoorRuleAll
import Derived.Test.YtmcgbjjcpcgcfaaGreatDoorRelAll
import Derived.Test.YtmcgbjjcpcgcfaaGreatDoorMade2
import Derived.Deep.DeepCutAuto
import Derived.Outline
set_option linter.unusedVariables false
namespace Go.Proofs.YtmcgbjjcpcgcfaaGreatDoor
open Go.RowKit

def TabIs4 (cs : Array Value) (u : Value) (W : World) : Prop := ∃ g : Nat, u = .slice (some ⟨g, 0, none⟩) 4 4 ∧ Blk W g 9 cs
def PtrIs4 (i : Nat) (cs : Array Value) (u : Value) (W : World) : Prop := ∃ g : Nat, u = .pointer (some ⟨g, i, none⟩) ∧ Blk W g 9 cs
def NewRule (B : Nat) (u : Value) (W : World) : Prop := ∃ g : Nat, u = .pointer (some ⟨g, 0, none⟩) ∧ B ≤ g ∧ Blk W g 47 #[.string ⟨#[]⟩, .int .i64 0, .int .i64 0, .int .i64 0, .int .i64 0, .int .i64 0, .int .i64 0, .int .i64 0, .int .i64 0, .int .i64 0, .string ⟨#[]⟩]
theorem TabIs4.lasts (cs : Array Value) : Lasts (TabIs4 cs) := fun u w w' hb ⟨g, h1, h2⟩ => ⟨g, h1, h2.below hb h2.lt⟩
theorem PtrIs4.lasts (i : Nat) (cs : Array Value) : Lasts (PtrIs4 i cs) := fun u w w' hb ⟨g, h1, h2⟩ => ⟨g, h1, h2.below hb h2.lt⟩
theorem NewRule.lasts (B : Nat) : Lasts (NewRule B) := fun u w w' hb ⟨g, h1, h0, h2⟩ => ⟨g, h1, h0, h2.below hb h2.lt⟩
def DHeld (w : World) (nm lt fr tt mo dk dw dd : Nat) (at_ sv : Int) (bs : Nat) (W : World) : Prop := Blk W w.heap.size 99 #[.int .u8 (nm : Int), .int .u8 (lt : Int), .int .u16 (fr : Int), .int .u16 (tt : Int), .int .u8 (mo : Int), .int .u8 (dk : Int), .int .u8 (dw : Int), .int .u8 (dd : Int), .int .i32 at_, .int .i32 sv, .int .u8 (bs : Int)] ∧ Blk W (w.heap.size + 1) 47 #[.string ⟨#[]⟩, .int .i64 0, .int .i64 0, .int .i64 0, .int .i64 0, .int .i64 0, .int .i64 0, .int .i64 0, .int .i64 0, .int .i64 0, .string ⟨#[]⟩] ∧ Below w.heap.size w W
theorem DHeld.cells {w : World} {nm lt fr tt mo dk dw dd : Nat} {at_ sv : Int} {bs : Nat} {W : World} (h : DHeld w nm lt fr tt mo dk dw dd at_ sv bs W) : W.cell? ⟨w.heap.size, 0, none⟩ = some (.int .u8 (nm : Int)) ∧ W.cell? ⟨w.heap.size, 1, none⟩ = some (.int .u8 (lt : Int)) ∧ W.cell? ⟨w.heap.size, 2, none⟩ = some (.int .u16 (fr : Int)) ∧ W.cell? ⟨w.heap.size, 3, none⟩ = some (.int .u16 (tt : Int)) ∧ W.cell? ⟨w.heap.size, 4, none⟩ = some (.int .u8 (mo : Int)) ∧ W.cell? ⟨w.heap.size, 5, none⟩ = some (.int .u8 (dk : Int)) ∧ W.cell? ⟨w.heap.size, 6, none⟩ = some (.int .u8 (dw : Int)) ∧ W.cell? ⟨w.heap.size, 7, none⟩ = some (.int .u8 (dd : Int)) ∧ W.cell? ⟨w.heap.size, 8, none⟩ = some (.int .i32 at_) ∧ W.cell? ⟨w.heap.size, 9, none⟩ = some (.int .i32 sv) ∧ W.cell? ⟨w.heap.size, 10, none⟩ = some (.int .u8 (bs : Int)) :=
  ⟨h.1.cell_ rfl, h.1.cell_ rfl, h.1.cell_ rfl, h.1.cell_ rfl, h.1.cell_ rfl, h.1.cell_ rfl, h.1.cell_ rfl, h.1.cell_ rfl, h.1.cell_ rfl, h.1.cell_ rfl, h.1.cell_ rfl⟩

def nameM (n : Nat) : List UInt8 := [[82], [69, 105, 114, 101], [69, 85], [67, 45, 69, 117, 114]].getD (n % 4) []
def lettM (n : Nat) : List UInt8 := [[], [83], [68], [71, 72, 83, 84]].getD (n % 4) []
def tilM (fr tt : Nat) : Int := if tt % 3 = 0 then 1850 + (fr : Int) % 300 else if tt % 3 = 1 then 1048576 else 1850 + (tt : Int) / 3 % 300
def draftM (nm lt fr tt mo dk dw dd : Nat) (at_ sv : Int) (bs : Nat) : RuleP := ⟨nameM nm, 1850 + (fr : Int) % 300, tilM fr tt, 1 + (mo : Int) % 12, dayM dk dw dd, (at_.tmod 604800, (bs : Int) % 3), sv.tmod 604800, lettM lt⟩
theorem nameM_fin : ∀ i : Fin 4, setB (nameM i.val) = true := by decide +kernel
theorem lettM_fin : ∀ i : Fin 4, lettM i.val = [] ∨ ofB 1 4 1 (lettM i.val) = true := by decide +kernel
theorem tmod_bd (x : Int) : -604799 ≤ x.tmod 604800 ∧ x.tmod 604800 ≤ 604799 := by
  have hp : ∀ y : Int, 0 ≤ y → 0 ≤ y.tmod 604800 ∧ y.tmod 604800 ≤ 604799 := fun y hy => by rw [Int.tmod_eq_emod_of_nonneg hy]; omega
  by_cases h : 0 ≤ x
  · have := hp x h; omega
  · have h2 := hp (-x) (by omega)
    rw [Int.neg_tmod] at h2
    omega
theorem draft_right (nm lt fr tt mo dk dw dd : Nat) (at_ sv : Int) (bs : Nat) : RuleRight (draftM nm lt fr tt mo dk dw dd at_ sv bs) := by
  refine ⟨dayM_right dk dw dd, ?_, tmod_bd sv, ?_, decide_eq_true (show 1850 ≤ 1850 + (fr : Int) % 300 ∧ 1850 + (fr : Int) % 300 ≤ 2149 by omega), ?_, (by show 1 ≤ 1 + (mo : Int) % 12 ∧ 1 + (mo : Int) % 12 ≤ 12; omega), ?_⟩
  · have := tmod_bd at_
    show clockOk (at_.tmod 604800) ((bs : Int) % 3) = true
    simp only [clockOk, Bool.and_eq_true, decide_eq_true_eq]
    omega
  · have := nameM_fin ⟨nm % 4, Nat.mod_lt _ (by decide)⟩
    simpa [nameM, draftM] using this
  · show namedB (tilM fr tt) = true ∨ tilM fr tt = 1048576
    unfold tilM
    split
    · exact .inl (decide_eq_true (by omega))
    · split
      · exact .inr rfl
      · exact .inl (decide_eq_true (by omega))
  · have := lettM_fin ⟨lt % 4, Nat.mod_lt _ (by decide)⟩
    simpa [lettM, draftM] using this

set_option maxRecDepth 100000 in
set_option maxHeartbeats 1000000 in
theorem made10_any (nm lt fr tt mo dk dw dd : Nat) (at_ sv : Int) (bs : Nat) (w : World) (h0 : nm < 256) (h1 : lt < 256) (h2 : fr < 65536) (h3 : tt < 65536) (h4 : mo < 256) (h5 : dk < 256) (h6 : dw < 256) (h7 : dd < 256) (h8 : -2147483648 ≤ at_ ∧ at_ ≤ 2147483647) (h9 : -2147483648 ≤ sv ∧ sv ≤ 2147483647) (h10 : bs < 256) :
    Calls Tryz.prog 50 #[.agg #[.int .u8 (nm : Int), .int .u8 (lt : Int), .int .u16 (fr : Int), .int .u16 (tt : Int), .int .u8 (mo : Int), .int .u8 (dk : Int), .int .u8 (dw : Int), .int .u8 (dd : Int), .int .i32 at_, .int .i32 sv, .int .u8 (bs : Int)]] w fun e w' => e = .returned (ruleV (draftM nm lt fr tt mo dk dw dd at_ sv bs)) ∧ Below w.heap.size w w' := by
  have H2 := Lib.hid (show ∀ W, Calls Tryz.prog 67 #[.agg #[.int .u8 (dk : Int), .int .u8 (dw : Int), .int .u8 (dd : Int)]] W fun e w' => e = .returned (.agg #[.int .i64 (dayM dk dw dd).1, .int .i64 (dayM dk dw dd).2.1, .int .i64 (dayM dk dw dd).2.2]) ∧ Below W.heap.size W w' from fun W => made2_any dk dw dd W h5 h6 h7)
  have H6 := Lib.hid (show ∀ W, Calls Tryz.prog 68 #[.int .i32 at_, .int .u8 (bs : Int)] W fun e w' => e = .returned (.agg #[.int .i64 (at_.tmod 604800), .int .i64 ((bs : Int) % 3)]) ∧ Below W.heap.size W w' from fun W => made6_any at_ bs W h8 h10)
  obtain ⟨hs1, hs2⟩ := h9
  obtain ⟨i, hi⟩ : ∃ i, nm % 4 = i := ⟨_, rfl⟩
  obtain ⟨j, hj⟩ : ∃ j, lt % 4 = j := ⟨_, rfl⟩
  have hi4 : i < 4 := by omega
  have hj4 : j < 4 := by omega
  have htm : ∀ (a : Nat) (b : Int), (a : Int).tmod b = (a : Int) % b := fun a b => Int.tmod_eq_emod_of_nonneg (by omega)
  have hw1 : IntKind.i64.wrap ((fr : Int) % 300) = (fr : Int) % 300 := IntWalk.i64_in _ (by omega)
  have hw2 : IntKind.i64.wrap (1850 + (fr : Int) % 300) = 1850 + (fr : Int) % 300 := IntWalk.i64_in _ (by omega)
  have hw3 : IntKind.i64.wrap ((mo : Int) % 12) = (mo : Int) % 12 := IntWalk.i64_in _ (by omega)
  have hw4 : IntKind.i64.wrap (1 + (mo : Int) % 12) = 1 + (mo : Int) % 12 := IntWalk.i64_in _ (by omega)
  have hw5 : IntKind.i64.wrap sv = sv := IntWalk.i64_in _ (by omega)
  have hiA : (0 : Int) ≤ (i : Int) := by omega
  have hiB : (i : Int) < 4 := by omega
  have hjA : (0 : Int) ≤ (j : Int) := by omega
  have hjB : (j : Int) < 4 := by omega
  have hiI : (nm : Int) % 4 = (i : Int) := by omega
  have hjI : (lt : Int) % 4 = (j : Int) := by omega
  obtain ⟨sN, hsN⟩ : ∃ sN : ByteArray, (⟨(nameM nm).toArray⟩ : ByteArray) = sN := ⟨_, rfl⟩
  obtain ⟨sL, hsL⟩ : ∃ sL : ByteArray, (⟨(lettM lt).toArray⟩ : ByteArray) = sL := ⟨_, rfl⟩
  have Hc1 := Lib.hid (show ∀ W g, Blk W g 9 #[.string ⟨#[82]⟩, .string ⟨#[69, 105, 114, 101]⟩, .string ⟨#[69, 85]⟩, .string ⟨#[67, 45, 69, 117, 114]⟩] → W.cell? ⟨g, i, none⟩ = some (.string sN) from fun W g h => h.cell_ (by
    rw [← hsN, nameM, hi]
    rcases (by omega : i = 0 ∨ i = 1 ∨ i = 2 ∨ i = 3) with h | h | h | h <;> subst h <;> rfl))
  have Hc2 := Lib.hid (show ∀ W g, Blk W g 9 #[.string ⟨#[]⟩, .string ⟨#[83]⟩, .string ⟨#[68]⟩, .string ⟨#[71, 72, 83, 84]⟩] → W.cell? ⟨g, j, none⟩ = some (.string sL) from fun W g h => h.cell_ (by
    rw [← hsL, lettM, hj]
    rcases (by omega : j = 0 ∨ j = 1 ∨ j = 2 ∨ j = 3) with h | h | h | h <;> subst h <;> rfl))
  have HR := Lib.hid (show ruleV (draftM nm lt fr tt mo dk dw dd at_ sv bs) = .agg #[.string sN, .int .i64 (1850 + (fr : Int) % 300), .int .i64 (tilM fr tt), .int .i64 (1 + (mo : Int) % 12), .int .i64 (dayM dk dw dd).1, .int .i64 (dayM dk dw dd).2.1, .int .i64 (dayM dk dw dd).2.2, .int .i64 (at_.tmod 604800), .int .i64 ((bs : Int) % 3), .int .i64 (sv.tmod 604800), .string sL] by rw [← hsN, ← hsL]; rfl)
  rw [HR.out]
  clear hsN hsL hi hj HR h5 h6 h7 h8 h10
  generalize (dayM dk dw dd).1 = m1 at *
  generalize (dayM dk dw dd).2.1 = m2 at *
  generalize (dayM dk dw dd).2.2 = m3 at *
  go_enter Tryz.func50, Tryz.ntmps50
  go_upto_region 1 with fail
  have HG : DHeld w nm lt fr tt mo dk dw dd at_ sv bs ((w.alloc (.cells #[.int .u8 (nm : Int), .int .u8 (lt : Int), .int .u16 (fr : Int), .int .u16 (tt : Int), .int .u8 (mo : Int), .int .u8 (dk : Int), .int .u8 (dw : Int), .int .u8 (dd : Int), .int .i32 at_, .int .i32 sv, .int .u8 (bs : Int)] 99)).alloc (.cells #[.string ⟨#[]⟩, .int .i64 0, .int .i64 0, .int .i64 0, .int .i64 0, .int .i64 0, .int .i64 0, .int .i64 0, .int .i64 0, .int .i64 0, .string ⟨#[]⟩] 47)) := ⟨(Blk.new' _ _ _ rfl).alloc _, Blk.new' _ _ _ (by simp), by go_grown⟩
  refine wp_region_rels 36 [[], [], [], [], [0], [4], [], [], [], [], [], [], [], [], [], [], [], [], [], [], [], [], [], [], [], [], [], [], [], [], [], [], [28], [32], [], []] [Form.rel (TabIs4 #[.string ⟨#[82]⟩, .string ⟨#[69, 105, 114, 101]⟩, .string ⟨#[69, 85]⟩, .string ⟨#[67, 45, 69, 117, 114]⟩]), Form.val, Form.val, Form.val, Form.rel (PtrIs4 i #[.string ⟨#[82]⟩, .string ⟨#[69, 105, 114, 101]⟩, .string ⟨#[69, 85]⟩, .string ⟨#[67, 45, 69, 117, 114]⟩]), Form.val, Form.val, Form.val, Form.val, Form.val, Form.val, Form.val, Form.val, Form.val, Form.val, Form.val, Form.val, Form.val, Form.val, Form.val, Form.val, Form.val, Form.val, Form.val, Form.val, Form.val, Form.val, Form.val, Form.rel (TabIs4 #[.string ⟨#[]⟩, .string ⟨#[83]⟩, .string ⟨#[68]⟩, .string ⟨#[71, 72, 83, 84]⟩]), Form.val, Form.val, Form.val, Form.rel (PtrIs4 j #[.string ⟨#[]⟩, .string ⟨#[83]⟩, .string ⟨#[68]⟩, .string ⟨#[71, 72, 83, 84]⟩]), Form.val, Form.val, Form.rel (NewRule (w.heap.size + 2))] (DHeld w nm lt fr tt mo dk dw dd at_ sv bs) (by kernel_rfl) (by kernel_rfl) rfl rfl (⟨HG.1, HG.2.1, HG.2.2.drew⟩) (fun W W' h hb => ⟨h.1.below hb h.1.lt, h.2.1.below hb h.2.1.lt, h.2.2.trans (hb.mono h.2.2.size)⟩) ⟨TabIs4.lasts _, PtrIs4.lasts _ _, TabIs4.lasts _, PtrIs4.lasts _ _, NewRule.lasts _, trivial⟩ ?_
  repeat (first | apply exSpec_rel | apply exSpec_new | apply exSpec_val)
  apply relWalk_rel rfl ?o0 (fun u0 K hK => ?n0)
  case o0 =>
    intro W hC hF
    obtain ⟨q0, q1, q2, q3, q4, q5, q6, q7, q8, q9, q10⟩ := hC.cells
    go_simp
    all_goals exact ⟨by go_grown, _, rfl, Blk.new _ _ _⟩
  case' n0 =>
    go_simp
    refine hK _ ?_
    clear hK K
  apply relWalk_ex rfl ?o1 (fun K hK => ?n1)
  case o1 =>
    intro W hC hF
    obtain ⟨q0, q1, q2, q3, q4, q5, q6, q7, q8, q9, q10⟩ := hC.cells
    go_simp
    all_goals exact ⟨Below.refl _ _, rfl⟩
  case' n1 =>
    go_simp
    refine hK _ ?_
    clear hK K
  apply relWalk_ex rfl ?o2 (fun K hK => ?n2)
  case o2 =>
    intro W hC hF
    obtain ⟨q0, q1, q2, q3, q4, q5, q6, q7, q8, q9, q10⟩ := hC.cells
    go_simp
    all_goals exact ⟨Below.refl _ _, rfl⟩
  case' n2 =>
    go_simp
    refine hK _ ?_
    clear hK K
  apply relWalk_ex rfl ?o3 (fun K hK => ?n3)
  case o3 =>
    intro W hC hF
    obtain ⟨q0, q1, q2, q3, q4, q5, q6, q7, q8, q9, q10⟩ := hC.cells
    go_simp
    all_goals exact ⟨Below.refl _ _, rfl⟩
  case' n3 =>
    go_simp
    refine hK _ ?_
    clear hK K
  apply relWalk_rel rfl ?o4 (fun u4 K hK => ?n4)
  case o4 =>
    intro W hC hF
    obtain ⟨⟨g, rfl, hB⟩, -⟩ := hF
    obtain ⟨q0, q1, q2, q3, q4, q5, q6, q7, q8, q9, q10⟩ := hC.cells
    go_simp
    all_goals exact ⟨by go_grown, g, rfl, hB⟩
  case' n4 =>
    go_simp
    refine hK _ ?_
    clear hK K
  apply relWalk_ex rfl ?o5 (fun K hK => ?n5)
  case o5 =>
    intro W hC hF
    obtain ⟨⟨g, rfl, hB⟩, -⟩ := hF
    have hx : W.cell? ⟨g, i, none⟩ = some (.string sN) := Hc1.out W g hB
    obtain ⟨q0, q1, q2, q3, q4, q5, q6, q7, q8, q9, q10⟩ := hC.cells
    go_simp
    all_goals exact ⟨Below.refl _ _, rfl⟩
  case' n5 =>
    go_simp
    refine hK _ ?_
    clear hK K
  apply relWalk_ex rfl ?o6 (fun K hK => ?n6)
  case o6 =>
    intro W hC hF
    obtain ⟨q0, q1, q2, q3, q4, q5, q6, q7, q8, q9, q10⟩ := hC.cells
    go_simp
    all_goals exact ⟨Below.refl _ _, rfl⟩
  case' n6 =>
    go_simp
    refine hK _ ?_
    clear hK K
  apply relWalk_ex rfl ?o7 (fun K hK => ?n7)
  case o7 =>
    intro W hC hF
    obtain ⟨q0, q1, q2, q3, q4, q5, q6, q7, q8, q9, q10⟩ := hC.cells
    go_simp
    all_goals exact ⟨Below.refl _ _, rfl⟩
  case' n7 =>
    go_simp
    refine hK _ ?_
    clear hK K
  apply relWalk_ex rfl ?o8 (fun K hK => ?n8)
  case o8 =>
    intro W hC hF
    obtain ⟨q0, q1, q2, q3, q4, q5, q6, q7, q8, q9, q10⟩ := hC.cells
    go_simp
    all_goals exact ⟨Below.refl _ _, rfl⟩
  case' n8 =>
    go_simp
    refine hK _ ?_
    clear hK K
  apply relWalk_ex rfl ?o9 (fun K hK => ?n9)
  case o9 =>
    intro W hC hF
    obtain ⟨q0, q1, q2, q3, q4, q5, q6, q7, q8, q9, q10⟩ := hC.cells
    go_simp
    all_goals exact ⟨Below.refl _ _, rfl⟩
  case' n9 =>
    go_simp
    refine hK _ ?_
    clear hK K
  apply relWalk_ex rfl ?o10 (fun K hK => ?n10)
  case o10 =>
    intro W hC hF
    obtain ⟨q0, q1, q2, q3, q4, q5, q6, q7, q8, q9, q10⟩ := hC.cells
    go_simp
    all_goals exact ⟨Below.refl _ _, rfl⟩
  case' n10 =>
    go_simp
    refine hK _ ?_
    clear hK K
  apply relWalk_ex rfl ?o11 (fun K hK => ?n11)
  case o11 =>
    intro W hC hF
    obtain ⟨q0, q1, q2, q3, q4, q5, q6, q7, q8, q9, q10⟩ := hC.cells
    go_simp
    all_goals exact ⟨Below.refl _ _, rfl⟩
  case' n11 =>
    go_simp
    refine hK _ ?_
    clear hK K
  apply relWalk_ex rfl ?o12 (fun K hK => ?n12)
  case o12 =>
    intro W hC hF
    obtain ⟨q0, q1, q2, q3, q4, q5, q6, q7, q8, q9, q10⟩ := hC.cells
    go_simp
    all_goals exact ⟨Below.refl _ _, rfl⟩
  case' n12 =>
    go_simp
    refine hK _ ?_
    clear hK K
  apply relWalk_ex rfl ?o13 (fun K hK => ?n13)
  case o13 =>
    intro W hC hF
    obtain ⟨q0, q1, q2, q3, q4, q5, q6, q7, q8, q9, q10⟩ := hC.cells
    go_simp
    all_goals exact ⟨Below.refl _ _, rfl⟩
  case' n13 =>
    go_simp
    refine hK _ ?_
    clear hK K
  apply relWalk_ex rfl ?o14 (fun K hK => ?n14)
  case o14 =>
    intro W hC hF
    obtain ⟨q0, q1, q2, q3, q4, q5, q6, q7, q8, q9, q10⟩ := hC.cells
    go_simp
    all_goals exact ⟨Below.refl _ _, rfl⟩
  case' n14 =>
    go_simp
    refine hK _ ?_
    clear hK K
  apply relWalk_ex rfl ?o15 (fun K hK => ?n15)
  case o15 =>
    intro W hC hF
    obtain ⟨q0, q1, q2, q3, q4, q5, q6, q7, q8, q9, q10⟩ := hC.cells
    go_simp
    all_goals exact ⟨Below.refl _ _, rfl⟩
  case' n15 =>
    go_simp
    refine hK _ ?_
    clear hK K
  apply relWalk_ex rfl ?o16 (fun K hK => ?n16)
  case o16 =>
    intro W hC hF
    obtain ⟨q0, q1, q2, q3, q4, q5, q6, q7, q8, q9, q10⟩ := hC.cells
    go_simp
    all_goals exact ⟨Below.refl _ _, rfl⟩
  case' n16 =>
    go_simp
    refine hK _ ?_
    clear hK K
  apply relWalk_ex rfl ?o17 (fun K hK => ?n17)
  case o17 =>
    intro W hC hF
    obtain ⟨q0, q1, q2, q3, q4, q5, q6, q7, q8, q9, q10⟩ := hC.cells
    go_simp
    all_goals exact ⟨Below.refl _ _, rfl⟩
  case' n17 =>
    go_simp
    refine hK _ ?_
    clear hK K
  apply relWalk_ex rfl ?o18 (fun K hK => ?n18)
  case o18 =>
    intro W hC hF
    obtain ⟨q0, q1, q2, q3, q4, q5, q6, q7, q8, q9, q10⟩ := hC.cells
    go_simp
    all_goals exact (H2.out W).mono fun e w' ⟨he, hb⟩ => ⟨he, hb⟩
  case' n18 =>
    go_simp
    refine hK _ ?_
    clear hK K
  apply relWalk_ex rfl ?o19 (fun K hK => ?n19)
  case o19 =>
    intro W hC hF
    obtain ⟨q0, q1, q2, q3, q4, q5, q6, q7, q8, q9, q10⟩ := hC.cells
    go_simp
    all_goals exact ⟨Below.refl _ _, rfl⟩
  case' n19 =>
    go_simp
    refine hK _ ?_
    clear hK K
  apply relWalk_ex rfl ?o20 (fun K hK => ?n20)
  case o20 =>
    intro W hC hF
    obtain ⟨q0, q1, q2, q3, q4, q5, q6, q7, q8, q9, q10⟩ := hC.cells
    go_simp
    all_goals exact ⟨Below.refl _ _, rfl⟩
  case' n20 =>
    go_simp
    refine hK _ ?_
    clear hK K
  apply relWalk_ex rfl ?o21 (fun K hK => ?n21)
  case o21 =>
    intro W hC hF
    obtain ⟨q0, q1, q2, q3, q4, q5, q6, q7, q8, q9, q10⟩ := hC.cells
    go_simp
    all_goals exact ⟨Below.refl _ _, rfl⟩
  case' n21 =>
    go_simp
    refine hK _ ?_
    clear hK K
  apply relWalk_ex rfl ?o22 (fun K hK => ?n22)
  case o22 =>
    intro W hC hF
    obtain ⟨q0, q1, q2, q3, q4, q5, q6, q7, q8, q9, q10⟩ := hC.cells
    go_simp
    all_goals exact ⟨Below.refl _ _, rfl⟩
  case' n22 =>
    go_simp
    refine hK _ ?_
    clear hK K
  apply relWalk_ex rfl ?o23 (fun K hK => ?n23)
  case o23 =>
    intro W hC hF
    obtain ⟨q0, q1, q2, q3, q4, q5, q6, q7, q8, q9, q10⟩ := hC.cells
    go_simp
    all_goals exact (H6.out W).mono fun e w' ⟨he, hb⟩ => ⟨he, hb⟩
  case' n23 =>
    go_simp
    refine hK _ ?_
    clear hK K
  apply relWalk_ex rfl ?o24 (fun K hK => ?n24)
  case o24 =>
    intro W hC hF
    obtain ⟨q0, q1, q2, q3, q4, q5, q6, q7, q8, q9, q10⟩ := hC.cells
    go_simp
    all_goals exact ⟨Below.refl _ _, rfl⟩
  case' n24 =>
    go_simp
    refine hK _ ?_
    clear hK K
  apply relWalk_ex rfl ?o25 (fun K hK => ?n25)
  case o25 =>
    intro W hC hF
    obtain ⟨q0, q1, q2, q3, q4, q5, q6, q7, q8, q9, q10⟩ := hC.cells
    go_simp
    all_goals exact ⟨Below.refl _ _, rfl⟩
  case' n25 =>
    go_simp
    refine hK _ ?_
    clear hK K
  apply relWalk_ex rfl ?o26 (fun K hK => ?n26)
  case o26 =>
    intro W hC hF
    obtain ⟨q0, q1, q2, q3, q4, q5, q6, q7, q8, q9, q10⟩ := hC.cells
    go_simp
    all_goals exact ⟨Below.refl _ _, rfl⟩
  case' n26 =>
    go_simp
    refine hK _ ?_
    clear hK K
  apply relWalk_ex rfl ?o27 (fun K hK => ?n27)
  case o27 =>
    intro W hC hF
    obtain ⟨q0, q1, q2, q3, q4, q5, q6, q7, q8, q9, q10⟩ := hC.cells
    go_simp
    all_goals exact ⟨Below.refl _ _, rfl⟩
  case' n27 =>
    go_simp
    refine hK _ ?_
    clear hK K
  apply relWalk_rel rfl ?o28 (fun u28 K hK => ?n28)
  case o28 =>
    intro W hC hF
    obtain ⟨q0, q1, q2, q3, q4, q5, q6, q7, q8, q9, q10⟩ := hC.cells
    go_simp
    all_goals exact ⟨by go_grown, _, rfl, Blk.new _ _ _⟩
  case' n28 =>
    go_simp
    refine hK _ ?_
    clear hK K
  apply relWalk_ex rfl ?o29 (fun K hK => ?n29)
  case o29 =>
    intro W hC hF
    obtain ⟨q0, q1, q2, q3, q4, q5, q6, q7, q8, q9, q10⟩ := hC.cells
    go_simp
    all_goals exact ⟨Below.refl _ _, rfl⟩
  case' n29 =>
    go_simp
    refine hK _ ?_
    clear hK K
  apply relWalk_ex rfl ?o30 (fun K hK => ?n30)
  case o30 =>
    intro W hC hF
    obtain ⟨q0, q1, q2, q3, q4, q5, q6, q7, q8, q9, q10⟩ := hC.cells
    go_simp
    all_goals exact ⟨Below.refl _ _, rfl⟩
  case' n30 =>
    go_simp
    refine hK _ ?_
    clear hK K
  apply relWalk_ex rfl ?o31 (fun K hK => ?n31)
  case o31 =>
    intro W hC hF
    obtain ⟨q0, q1, q2, q3, q4, q5, q6, q7, q8, q9, q10⟩ := hC.cells
    go_simp
    all_goals exact ⟨Below.refl _ _, rfl⟩
  case' n31 =>
    go_simp
    refine hK _ ?_
    clear hK K
  apply relWalk_rel rfl ?o32 (fun u32 K hK => ?n32)
  case o32 =>
    intro W hC hF
    obtain ⟨⟨g, rfl, hB⟩, -⟩ := hF
    obtain ⟨q0, q1, q2, q3, q4, q5, q6, q7, q8, q9, q10⟩ := hC.cells
    go_simp
    all_goals exact ⟨by go_grown, g, rfl, hB⟩
  case' n32 =>
    go_simp
    refine hK _ ?_
    clear hK K
  apply relWalk_ex rfl ?o33 (fun K hK => ?n33)
  case o33 =>
    intro W hC hF
    obtain ⟨⟨g, rfl, hB⟩, -⟩ := hF
    have hx : W.cell? ⟨g, j, none⟩ = some (.string sL) := Hc2.out W g hB
    obtain ⟨q0, q1, q2, q3, q4, q5, q6, q7, q8, q9, q10⟩ := hC.cells
    go_simp
    all_goals exact ⟨Below.refl _ _, rfl⟩
  case' n33 =>
    go_simp
    refine hK _ ?_
    clear hK K
  apply relWalk_ex rfl ?o34 (fun K hK => ?n34)
  case o34 =>
    intro W hC hF
    obtain ⟨q0, q1, q2, q3, q4, q5, q6, q7, q8, q9, q10⟩ := hC.cells
    go_simp
    all_goals exact ⟨Below.refl _ _, rfl⟩
  case' n34 =>
    go_simp
    refine hK _ ?_
    clear hK K
  apply relWalk_rel rfl ?o35 (fun u35 K hK => ?n35)
  case o35 =>
    intro W hC hF
    obtain ⟨q0, q1, q2, q3, q4, q5, q6, q7, q8, q9, q10⟩ := hC.cells
    go_simp
    all_goals exact ⟨by go_grown, _, rfl, hC.2.1.lt, Blk.new _ _ _⟩
  case' n35 =>
    go_simp
    refine hK _ ?_
    clear hK K
  apply relWalk_end
  intro W hC hF hU
  obtain ⟨⟨g, rfl, hg, hB⟩, -⟩ := hF
  obtain ⟨hD, hZ, hb⟩ := hC
  refine wpList_store_mid rfl 47 (.tmp 3) (.tmp 38) rfl g 0 #[.string sN, .int .i64 (1850 + (fr : Int) % 300), .int .i64 0, .int .i64 (1 + (mo : Int) % 12), .int .i64 m1, .int .i64 m2, .int .i64 m3, .int .i64 (at_.tmod 604800), .int .i64 ((bs : Int) % 3), .int .i64 (sv.tmod 604800), .string sL] rfl rfl (hB.there (Nat.le_refl _)) infoRule (by simp [Value.oneCell']) ?_
  clear hw1 hw2 hw3 hw4 hw5 htm
  have hB2 := hB.setAll #[.string sN, .int .i64 (1850 + (fr : Int) % 300), .int .i64 0, .int .i64 (1 + (mo : Int) % 12), .int .i64 m1, .int .i64 m2, .int .i64 m3, .int .i64 (at_.tmod 604800), .int .i64 ((bs : Int) % 3), .int .i64 (sv.tmod 604800), .string sL] rfl
  have hD2 := hD.below (below_sets (Nat.le_refl g) #[.string sN, .int .i64 (1850 + (fr : Int) % 300), .int .i64 0, .int .i64 (1 + (mo : Int) % 12), .int .i64 m1, .int .i64 m2, .int .i64 m3, .int .i64 (at_.tmod 604800), .int .i64 ((bs : Int) % 3), .int .i64 (sv.tmod 604800), .string sL].toList 0 W (Below.refl _ _)) (by omega)
  have hZ2 := hZ.below (below_sets (Nat.le_refl g) #[.string sN, .int .i64 (1850 + (fr : Int) % 300), .int .i64 0, .int .i64 (1 + (mo : Int) % 12), .int .i64 m1, .int .i64 m2, .int .i64 m3, .int .i64 (at_.tmod 604800), .int .i64 ((bs : Int) % 3), .int .i64 (sv.tmod 604800), .string sL].toList 0 W (Below.refl _ _)) (by omega)
  have hb2 := below_sets (by omega : w.heap.size ≤ g) #[.string sN, .int .i64 (1850 + (fr : Int) % 300), .int .i64 0, .int .i64 (1 + (mo : Int) % 12), .int .i64 m1, .int .i64 m2, .int .i64 m3, .int .i64 (at_.tmod 604800), .int .i64 ((bs : Int) % 3), .int .i64 (sv.tmod 604800), .string sL].toList 0 W hb
  generalize W.setCells g 0 #[.string sN, .int .i64 (1850 + (fr : Int) % 300), .int .i64 0, .int .i64 (1 + (mo : Int) % 12), .int .i64 m1, .int .i64 m2, .int .i64 m3, .int .i64 (at_.tmod 604800), .int .i64 ((bs : Int) % 3), .int .i64 (sv.tmod 604800), .string sL].toList = w2 at *
  have t3 : w2.cell? ⟨w.heap.size, 3, none⟩ = some (.int .u16 (tt : Int)) := hD2.cell_ rfl
  have f1 : w2.cell? ⟨g, 1, none⟩ = some (.int .i64 (1850 + (fr : Int) % 300)) := hB2.cell_ rfl
  have f2 : w2.cell? ⟨g, 2, none⟩ = some (.int .i64 0) := hB2.cell_ rfl
  have y2 := hB2.frozen 2
  have HH := Lib.hid (And.intro hB2 (And.intro hZ2 hb2))
  clear hB2 hZ2 hb2 hD2 hB hD hZ hb H2 H6 Hc1 Hc2 HG hiA hiB hjA hjB hiI hjI hi4 hj4
  rcases (by omega : tt % 3 = 0 ∨ tt % 3 = 1 ∨ tt % 3 = 2) with h | h | h
  · have HT := Lib.hid (show tilM fr tt = (1850 + (fr : Int) % 300) by simp [tilM, h])
    have e0 : ((tt : Int) % 3 == 0) = true := by rw [beq_iff_eq]; omega
    clear h
    have HB := Lib.hid (show Blk (w2.setCell ⟨g, 2, none⟩ (.int .i64 (1850 + (fr : Int) % 300))) g 47 #[.string sN, .int .i64 (1850 + (fr : Int) % 300), .int .i64 (1850 + (fr : Int) % 300), .int .i64 (1 + (mo : Int) % 12), .int .i64 m1, .int .i64 m2, .int .i64 m3, .int .i64 (at_.tmod 604800), .int .i64 ((bs : Int) % 3), .int .i64 (sv.tmod 604800), .string sL] from HH.out.1.set_ 2 _)
    have HZ := Lib.hid (show Blk (w2.setCell ⟨g, 2, none⟩ (.int .i64 (1850 + (fr : Int) % 300))) (w.heap.size + 1) 47 #[.string ⟨#[]⟩, .int .i64 0, .int .i64 0, .int .i64 0, .int .i64 0, .int .i64 0, .int .i64 0, .int .i64 0, .int .i64 0, .int .i64 0, .string ⟨#[]⟩] from HH.out.2.1.far (by show w.heap.size + 1 ≠ g; omega) _)
    have HW := Lib.hid (show Below w.heap.size w (w2.setCell ⟨g, 2, none⟩ (.int .i64 (1850 + (fr : Int) % 300))) from HH.out.2.2.setCell (by show w.heap.size ≤ g; omega) _)
    go_upto_region 8 with fail
    obtain ⟨C, hCC⟩ : ∃ C : Array Value, #[.string sN, .int .i64 (1850 + (fr : Int) % 300), .int .i64 (1850 + (fr : Int) % 300), .int .i64 (1 + (mo : Int) % 12), .int .i64 m1, .int .i64 m2, .int .i64 m3, .int .i64 (at_.tmod 604800), .int .i64 ((bs : Int) % 3), .int .i64 (sv.tmod 604800), .string sL] = C := ⟨_, rfl⟩
    have Hi := Lib.hid (show (Tryz.prog.info? 47).map (·.size) = some C.size ∧ C.all (·.oneCell') = true ∧ C.size = 11 from hCC ▸ ⟨infoRule, by simp [Value.oneCell'], rfl⟩)
    rw [hCC] at HB
    have HCC := Lib.hid hCC
    clear hCC e0 f1 f2 t3 y2 HH
    generalize w2.setCell ⟨g, 2, none⟩ (.int .i64 (1850 + (fr : Int) % 300)) = w3 at *
    go_wp2_with (first
      | (refine wpList_load_row rfl 47 (.tmp 3) rfl g rfl 47 C (0, 0) _ HB.out Tryz.underlying47 rfl Hi.out.1 ?_)
      | (refine wpList_store_mid rfl 47 (.tmp 2) (.tmp 57) rfl (w.heap.size + 1) 0 C rfl rfl (HZ.out.there (by rw [Hi.out.2.2]; decide)) Hi.out.1 Hi.out.2.1 ?_))
    refine bodyPost_ret (results_cell_row rfl _ _ (w.heap.size + 1) 47 C (0, 0) _ rfl (HZ.out.setAll C Hi.out.2.2) Tryz.underlying47 rfl Hi.out.1) rfl ⟨by rw [← HCC.out, HT.out], below_sets (by omega) _ _ _ HW.out⟩
  · have HT := Lib.hid (show tilM fr tt = 1048576 by simp [tilM, h])
    have e0 : ((tt : Int) % 3 == 0) = false := by rw [beq_eq_false_iff_ne]; omega
    have e1 : ((tt : Int) % 3 == 1) = true := by rw [beq_iff_eq]; omega
    clear h
    have HB := Lib.hid (show Blk (w2.setCell ⟨g, 2, none⟩ (.int .i64 1048576)) g 47 #[.string sN, .int .i64 (1850 + (fr : Int) % 300), .int .i64 1048576, .int .i64 (1 + (mo : Int) % 12), .int .i64 m1, .int .i64 m2, .int .i64 m3, .int .i64 (at_.tmod 604800), .int .i64 ((bs : Int) % 3), .int .i64 (sv.tmod 604800), .string sL] from HH.out.1.set_ 2 _)
    have HZ := Lib.hid (show Blk (w2.setCell ⟨g, 2, none⟩ (.int .i64 1048576)) (w.heap.size + 1) 47 #[.string ⟨#[]⟩, .int .i64 0, .int .i64 0, .int .i64 0, .int .i64 0, .int .i64 0, .int .i64 0, .int .i64 0, .int .i64 0, .int .i64 0, .string ⟨#[]⟩] from HH.out.2.1.far (by show w.heap.size + 1 ≠ g; omega) _)
    have HW := Lib.hid (show Below w.heap.size w (w2.setCell ⟨g, 2, none⟩ (.int .i64 1048576)) from HH.out.2.2.setCell (by show w.heap.size ≤ g; omega) _)
    go_upto_region 8 with fail
    obtain ⟨C, hCC⟩ : ∃ C : Array Value, #[.string sN, .int .i64 (1850 + (fr : Int) % 300), .int .i64 1048576, .int .i64 (1 + (mo : Int) % 12), .int .i64 m1, .int .i64 m2, .int .i64 m3, .int .i64 (at_.tmod 604800), .int .i64 ((bs : Int) % 3), .int .i64 (sv.tmod 604800), .string sL] = C := ⟨_, rfl⟩
    have Hi := Lib.hid (show (Tryz.prog.info? 47).map (·.size) = some C.size ∧ C.all (·.oneCell') = true ∧ C.size = 11 from hCC ▸ ⟨infoRule, by simp [Value.oneCell'], rfl⟩)
    rw [hCC] at HB
    have HCC := Lib.hid hCC
    clear hCC e0 f1 f2 t3 y2 HH
    generalize w2.setCell ⟨g, 2, none⟩ (.int .i64 1048576) = w3 at *
    go_wp2_with (first
      | (refine wpList_load_row rfl 47 (.tmp 3) rfl g rfl 47 C (0, 0) _ HB.out Tryz.underlying47 rfl Hi.out.1 ?_)
      | (refine wpList_store_mid rfl 47 (.tmp 2) (.tmp 57) rfl (w.heap.size + 1) 0 C rfl rfl (HZ.out.there (by rw [Hi.out.2.2]; decide)) Hi.out.1 Hi.out.2.1 ?_))
    refine bodyPost_ret (results_cell_row rfl _ _ (w.heap.size + 1) 47 C (0, 0) _ rfl (HZ.out.setAll C Hi.out.2.2) Tryz.underlying47 rfl Hi.out.1) rfl ⟨by rw [← HCC.out, HT.out], below_sets (by omega) _ _ _ HW.out⟩
  · have HT := Lib.hid (show tilM fr tt = (1850 + (tt : Int) / 3 % 300) by simp [tilM, h])
    have e0 : ((tt : Int) % 3 == 0) = false := by rw [beq_eq_false_iff_ne]; omega
    have e1 : ((tt : Int) % 3 == 1) = false := by rw [beq_eq_false_iff_ne]; omega
    clear h
    have HB := Lib.hid (show Blk (w2.setCell ⟨g, 2, none⟩ (.int .i64 (1850 + (tt : Int) / 3 % 300))) g 47 #[.string sN, .int .i64 (1850 + (fr : Int) % 300), .int .i64 (1850 + (tt : Int) / 3 % 300), .int .i64 (1 + (mo : Int) % 12), .int .i64 m1, .int .i64 m2, .int .i64 m3, .int .i64 (at_.tmod 604800), .int .i64 ((bs : Int) % 3), .int .i64 (sv.tmod 604800), .string sL] from HH.out.1.set_ 2 _)
    have HZ := Lib.hid (show Blk (w2.setCell ⟨g, 2, none⟩ (.int .i64 (1850 + (tt : Int) / 3 % 300))) (w.heap.size + 1) 47 #[.string ⟨#[]⟩, .int .i64 0, .int .i64 0, .int .i64 0, .int .i64 0, .int .i64 0, .int .i64 0, .int .i64 0, .int .i64 0, .int .i64 0, .string ⟨#[]⟩] from HH.out.2.1.far (by show w.heap.size + 1 ≠ g; omega) _)
    have HW := Lib.hid (show Below w.heap.size w (w2.setCell ⟨g, 2, none⟩ (.int .i64 (1850 + (tt : Int) / 3 % 300))) from HH.out.2.2.setCell (by show w.heap.size ≤ g; omega) _)
    go_upto_region 8 with fail
    obtain ⟨C, hCC⟩ : ∃ C : Array Value, #[.string sN, .int .i64 (1850 + (fr : Int) % 300), .int .i64 (1850 + (tt : Int) / 3 % 300), .int .i64 (1 + (mo : Int) % 12), .int .i64 m1, .int .i64 m2, .int .i64 m3, .int .i64 (at_.tmod 604800), .int .i64 ((bs : Int) % 3), .int .i64 (sv.tmod 604800), .string sL] = C := ⟨_, rfl⟩
    have Hi := Lib.hid (show (Tryz.prog.info? 47).map (·.size) = some C.size ∧ C.all (·.oneCell') = true ∧ C.size = 11 from hCC ▸ ⟨infoRule, by simp [Value.oneCell'], rfl⟩)
    rw [hCC] at HB
    have HCC := Lib.hid hCC
    clear hCC e0 f1 f2 t3 y2 HH
    generalize w2.setCell ⟨g, 2, none⟩ (.int .i64 (1850 + (tt : Int) / 3 % 300)) = w3 at *
    go_wp2_with (first
      | (refine wpList_load_row rfl 47 (.tmp 3) rfl g rfl 47 C (0, 0) _ HB.out Tryz.underlying47 rfl Hi.out.1 ?_)
      | (refine wpList_store_mid rfl 47 (.tmp 2) (.tmp 57) rfl (w.heap.size + 1) 0 C rfl rfl (HZ.out.there (by rw [Hi.out.2.2]; decide)) Hi.out.1 Hi.out.2.1 ?_))
    refine bodyPost_ret (results_cell_row rfl _ _ (w.heap.size + 1) 47 C (0, 0) _ rfl (HZ.out.setAll C Hi.out.2.2) Tryz.underlying47 rfl Hi.out.1) rfl ⟨by rw [← HCC.out, HT.out], below_sets (by omega) _ _ _ HW.out⟩

end Go.Proofs.YtmcgbjjcpcgcfaaGreatDoor
