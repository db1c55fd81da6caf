/-
  Arguments of the laws, opened: a byte, a number of sixteen bits, a string, a row of strings.
-/
import Derived.Test.YtbdmieelokmhiaaGreatDoorRuleKit
import Derived.Test.YtbdmieelokmhiaaGreatDoorRows1
import Derived.SliceStrings
import Derived.ShutString
import Derived.Lib.SmallJoins
set_option linter.unusedVariables false
set_option maxRecDepth 100000
namespace Go.Proofs.YtbdmieelokmhiaaGreatDoor
open Go.ChangeShapes Go.WideShapes Go.ChangeAt Go.RowKit
section
variable {H : Type} {enc : TypeId × Value → H} {w : World} {r : Reach} {base : Nat} {v : Value} {d : DataW H} {p : List MemPlace}

theorem open_byte (hv : Value.okWide Tryz.prog w r base 5 v) (h : DataW.Trod enc Tryz.prog w 0 (fun _ => true) true 5 v d p) : ∃ c : UInt8, v = .int .u8 (c.toNat : Int) := by
  obtain ⟨a, rfl, _, _, hw⟩ := open_int Tryz.underlying5 hv h
  have hb := bounds_u8 hw
  obtain ⟨n, rfl⟩ := Int.eq_ofNat_of_zero_le hb.1
  exact ⟨UInt8.ofNat n, by congr 1; simp; omega⟩
theorem open_u16 (hv : Value.okWide Tryz.prog w r base 39 v) (h : DataW.Trod enc Tryz.prog w 0 (fun _ => true) true 39 v d p) : ∃ n : Nat, v = .int .u16 (n : Int) ∧ n < 65536 := by
  obtain ⟨a, rfl, _, _, hw⟩ := open_int Tryz.underlying39 hv h
  have hb := bounds_u16 hw
  obtain ⟨n, rfl⟩ := Int.eq_ofNat_of_zero_le hb.1
  exact ⟨n, rfl, by omega⟩
theorem open_str (hv : Value.okWide Tryz.prog w r base 9 v) (h : DataW.Trod enc Tryz.prog w 0 (fun _ => true) true 9 v d p) : ∃ s : ByteArray, v = .string s ∧ s.size ≤ maxLen := by
  obtain ⟨s, rfl, _, _, hw⟩ := Go.ChangeMaps.open_string Tryz.underlying9 hv h
  exact ⟨s, rfl, hw⟩
theorem cStr : Tryz.prog.cellsOf 9 = 1 := by kernel_rfl
theorem open_strs (hv : Value.okWide Tryz.prog w r base 22 v) (h : DataW.Trod enc Tryz.prog w 0 (fun _ => true) true 22 v d p) : ∃ A c, ∃ ls : List (List UInt8), v = .slice A ls.length c ∧ StrArg w A ls := by
  obtain ⟨A, len, cap, rfl⟩ := okWide_slice Tryz.underlying22 hv
  obtain ⟨fuel, hf⟩ := h
  rcases open_strings Tryz.underlying22 Tryz.underlying9 cStr hf with ⟨hcs, hx⟩ | ⟨a, len', cap', ss, hcs, _, hl, hm, hz, hx, hcell, hws⟩
  · simp [Value.cells] at hcs
    obtain ⟨rfl, rfl, rfl⟩ := hcs
    exact ⟨none, 0, [], rfl, ⟨fun h => absurd rfl h⟩⟩
  · simp [Value.cells] at hcs
    obtain ⟨rfl, rfl, rfl⟩ := hcs
    have hz : ss.length = cap := by simpa using hz
    have hlen : ((ss.take len).map fun s => s.data.toList).length = len := by simp; omega
    refine ⟨some a, cap, (ss.take len).map fun s => s.data.toList, by rw [hlen], ⟨fun h0 => ?_⟩⟩
    have hpos : 0 < len := by
      rcases Nat.eq_zero_or_pos len with h | h
      · exact absurd (List.eq_nil_of_length_eq_zero (hlen.trans h)) h0
      · exact h
    have c0 := hcell 0 (by omega)
    have hs := World.cell?_spot c0
    obtain ⟨b, o, spot⟩ := a
    obtain rfl : spot = none := by simpa [Addr.add] using hs
    have add_none : ∀ n : Nat, (⟨b, o, none⟩ : Addr).add n = ⟨b, o + n, none⟩ := fun n => by unfold Addr.add; split <;> simp_all
    refine ⟨b, o, rfl, ?_, fun j l hl => ?_⟩
    · rw [add_none] at c0
      exact block_lt_of_cell c0
    · rw [List.getElem?_map] at hl
      cases hj : (ss.take len)[j]? with
      | none => rw [hj] at hl; cases hl
      | some s =>
        rw [hj] at hl
        have hl : s.data.toList = l := by simpa using hl
        subst hl
        rw [List.getElem?_take] at hj
        split at hj
        · have hjl : j < ss.length := (List.getElem?_eq_some_iff.1 hj).1
          have := hcell j hjl
          rw [add_none, List.getD_eq_getElem?_getD, hj] at this
          exact this
        · cases hj
end
end Go.Proofs.YtbdmieelokmhiaaGreatDoor
