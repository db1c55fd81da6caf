/-
  strings.HasPrefix: what the call returns.
-/
import Derived.Test.YtbdmieelokmhiaaGreatDoorDayTabs
import Derived.Lib.Strings
import Derived.Lib.IndexBytes
namespace Go.Proofs.YtbdmieelokmhiaaGreatDoor
open Go.RowKit

theorem pre_take {l p : List UInt8} : (l.take p.length == p) = Lib.hasPrefix l p := by
  rw [Bool.eq_iff_iff, beq_iff_eq, Lib.hasPrefix, List.isPrefixOf_iff_prefix]
  exact ⟨fun e => e ▸ List.take_prefix _ _, fun e => (List.prefix_iff_eq_take.1 e).symm⟩
theorem pre_short {l p : List UInt8} (h : l.length < p.length) : Lib.hasPrefix l p = false := by
  rw [Bool.eq_false_iff, Lib.hasPrefix, Ne, List.isPrefixOf_iff_prefix]
  exact fun e => by have := e.length_le; omega
theorem size_data (s : ByteArray) : s.data.toList.length = s.size := by simp

set_option maxHeartbeats 1000000 in
theorem lprefix_any (s p : ByteArray) (w : World) :
    Calls Tryz.prog 86 #[.string s, .string p] w fun e w' => e = .returned (.bool (Lib.hasPrefix s.data.toList p.data.toList)) ∧ w = w' := by
  by_cases h : p.size ≤ s.size
  · have HE := Lib.hid (show ((s.extract 0 p.size).toList == p.toList) = Lib.hasPrefix s.data.toList p.data.toList by
      rw [Lib.toList_data, Lib.toList_data, Lib.extract_data, List.drop_zero, Nat.sub_zero, ← size_data p, pre_take])
    go_enter Tryz.func86, Tryz.ntmps86
    go_wp2
    go_ret
    exact ⟨by rw [← HE.out]; rfl, rfl⟩
  · have HE := Lib.hid (show Lib.hasPrefix s.data.toList p.data.toList = false from pre_short (by rw [size_data, size_data]; omega))
    go_enter Tryz.func86, Tryz.ntmps86
    go_wp2
    go_ret
    exact ⟨by rw [HE.out]; rfl, rfl⟩

set_option maxHeartbeats 1000000 in
theorem prefix_any (s p : ByteArray) (w : World) :
    Calls Tryz.prog 39 #[.string s, .string p] w fun e w' => e = .returned (.bool (Lib.hasPrefix s.data.toList p.data.toList)) ∧ w = w' := by
  go_enter Tryz.func39, Tryz.ntmps39
  go_wp2_with (go_at_call 86; refine (lprefix_any _ _ _).mono ?_; rintro e w' ⟨rfl, rfl⟩)
  go_ret
  exact ⟨rfl, rfl⟩
end Go.Proofs.YtbdmieelokmhiaaGreatDoor
