/-
  Arguments of the laws, opened: a byte, a number of sixteen bits, a string, a day form.
-/
import Derived.Test.YteikhjhamjohpaaDoorCardKit
import Derived.ShutString
import Derived.Lib.SmallJoins
set_option linter.unusedVariables false
set_option maxRecDepth 100000
namespace Go.Proofs.YteikhjhamjohpaaDoor
open Go.ChangeShapes Go.WideShapes Go.ChangeAt Go.RowKit
section
variable {H : Type} {enc : TypeId × Value → H} {w : World} {r : Reach} {base : Nat} {v : Value} {d : DataW H} {p : List MemPlace}

theorem open_byte (hv : Value.okWide Tryd.prog w r base 5 v) (h : DataW.Trod enc Tryd.prog w 0 (fun _ => true) true 5 v d p) : ∃ c : UInt8, v = .int .u8 (c.toNat : Int) := by
  obtain ⟨a, rfl, _, _, hw⟩ := open_int Tryd.underlying5 hv h
  have hb := bounds_u8 hw
  obtain ⟨n, rfl⟩ := Int.eq_ofNat_of_zero_le hb.1
  exact ⟨UInt8.ofNat n, by congr 1; simp; omega⟩
theorem open_u16 (hv : Value.okWide Tryd.prog w r base 35 v) (h : DataW.Trod enc Tryd.prog w 0 (fun _ => true) true 35 v d p) : ∃ n : Nat, v = .int .u16 (n : Int) ∧ n < 65536 := by
  obtain ⟨a, rfl, _, _, hw⟩ := open_int Tryd.underlying35 hv h
  have hb := bounds_u16 hw
  obtain ⟨n, rfl⟩ := Int.eq_ofNat_of_zero_le hb.1
  exact ⟨n, rfl, by omega⟩
end
end Go.Proofs.YteikhjhamjohpaaDoor
