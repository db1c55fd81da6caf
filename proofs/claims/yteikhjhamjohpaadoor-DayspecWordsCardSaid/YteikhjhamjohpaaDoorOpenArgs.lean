/-
  Arguments of the laws, opened: a byte, a number of sixteen bits, a string, a day form.
-/
import Derived.Test.YteikhjhamjohpaaDoorCardKit
import Derived.ShutString
import Derived.Lib.SmallJoins
set_option linter.unusedVariables false
set_option maxRecDepth 100000
namespace Go.Proofs.YteikhjhamjohpaaDoor
open Go.ChangeShapes Go.WideShapes Go.ChangeAt Go.RowKit
section
variable {H : Type} {enc : TypeId × Value → H} {w : World} {r : Reach} {base : Nat} {v : Value} {d : DataW H} {p : List MemPlace}

theorem open_byte (hv : Value.okWide Tryd.prog w r base 5 v) (h : DataW.Trod enc Tryd.prog w 0 (fun _ => true) true 5 v d p) : ∃ c : UInt8, v = .int .u8 (c.toNat : Int) := by
  obtain ⟨a, rfl, _, _, hw⟩ := open_int Tryd.underlying5 hv h
  have hb := bounds_u8 hw
  obtain ⟨n, rfl⟩ := Int.eq_ofNat_of_zero_le hb.1
  exact ⟨UInt8.ofNat n, by congr 1; simp; omega⟩
theorem open_u16 (hv : Value.okWide Tryd.prog w r base 35 v) (h : DataW.Trod enc Tryd.prog w 0 (fun _ => true) true 35 v d p) : ∃ n : Nat, v = .int .u16 (n : Int) ∧ n < 65536 := by
  obtain ⟨a, rfl, _, _, hw⟩ := open_int Tryd.underlying35 hv h
  have hb := bounds_u16 hw
  obtain ⟨n, rfl⟩ := Int.eq_ofNat_of_zero_le hb.1
  exact ⟨n, rfl, by omega⟩
theorem open_str (hv : Value.okWide Tryd.prog w r base 9 v) (h : DataW.Trod enc Tryd.prog w 0 (fun _ => true) true 9 v d p) : ∃ s : ByteArray, v = .string s ∧ s.size ≤ maxLen := by
  obtain ⟨s, rfl, _, _, hw⟩ := Go.ChangeMaps.open_string Tryd.underlying9 hv h
  exact ⟨s, rfl, hw⟩
theorem cDay : Tryd.prog.cellsOf 23 = 3 := by kernel_rfl
theorem cInt : Tryd.prog.cellsOf 3 = 1 := by kernel_rfl
theorem open_day (hv : Value.okWide Tryd.prog w r base 23 v) (h : DataW.Trod enc Tryd.prog w 0 (fun _ => true) true 23 v d p) : ∃ a b c : Int, v = .agg #[.int .i64 a, .int .i64 b, .int .i64 c] := by
  obtain ⟨v0, v1, v2, y0, y1, y2, n, rfl, _, _, t0, t1, t2⟩ := Joins.open_agg3 Tryd.underlying23 (by kernel_rfl) cDay hv h
  obtain ⟨a, ha, _⟩ := DataW.trod_int Tryd.underlying3 t0
  obtain ⟨b, hb, _⟩ := DataW.trod_int Tryd.underlying3 t1
  obtain ⟨c, hc, _⟩ := DataW.trod_int Tryd.underlying3 t2
  injection ha with ha
  injection hb with hb
  injection hc with hc
  exact ⟨a, b, c, by rw [ha, hb, hc]⟩
end
end Go.Proofs.YteikhjhamjohpaaDoor
