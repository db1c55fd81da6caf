/-
  dayform.Check: what the call returns.
-/
import Derived.Test.YtbdmieelokmhiaaGreatDoorDayTabs
import Derived.Laws.EntriesVeiled
namespace Go.Proofs.YtbdmieelokmhiaaGreatDoor
open Go.RowKit

theorem check_yes {k wk d : Int} (h : rightDay k wk d = true) : Ending.returned (.int .i64 0) = .returned (.int .i64 (checkR k wk d)) := by rw [checkR, if_pos h]
theorem check_no {k wk d : Int} (h : ¬ rightDay k wk d = true) : Ending.returned (.int .i64 2) = .returned (.int .i64 (checkR k wk d)) := by rw [checkR, if_neg h]

set_option maxRecDepth 100000 in
set_option maxHeartbeats 1000000 in
theorem check_any (k wk d : Int) (w : World) (hK : Kinds w) :
    Calls Tryz.prog 116 #[.agg #[.int .i64 k, .int .i64 wk, .int .i64 d]] w fun e w' => e = .returned (.int .i64 (checkR k wk d)) ∧ Below w.heap.size w w' := by
  by_cases h1 : k < 1
  · have HR := Lib.hid (show checkR k wk d = 2 by rw [checkR, if_neg (by simp [rightDay]; omega)])
    clear hK
    go_enter Tryz.func116, Tryz.ntmps116
    go_wp2
    go_ret
    rw [HR.out]
    exact ⟨rfl, (Below.refl _ _).alloc (Nat.le_refl _) _⟩
  by_cases h4 : 4 < k
  · have HR := Lib.hid (show checkR k wk d = 2 by rw [checkR, if_neg (by simp [rightDay]; omega)])
    clear hK
    go_enter Tryz.func116, Tryz.ntmps116
    go_wp2
    go_ret
    rw [HR.out]
    exact ⟨rfl, (Below.refl _ _).alloc (Nat.le_refl _) _⟩
  have hk : k = 1 ∨ k = 2 ∨ k = 3 ∨ k = 4 := by omega
  clear h1 h4
  obtain ⟨w1, d1, w2, d2, w3, d3, w4, d4, f1, f2, f3, f4⟩ := hK
  rcases hk with rfl | rfl | rfl | rfl
  · clear w2 d2 w3 d3 w4 d4 f2 f3 f4
    have hlt := block_lt_of_cell w1
    go_enter Tryz.func116, Tryz.ntmps116
    go_wp2
    all_goals
      go_ret
      refine ⟨?_, ((Below.refl _ _).alloc (Nat.le_refl _) _).alloc (by simp) _⟩
      first
        | exact check_yes (by simp_all [rightDay]; try omega)
        | exact check_no (by simp_all [rightDay]; try omega)
  · clear w1 d1 w3 d3 w4 d4 f1 f3 f4
    have hlt := block_lt_of_cell w2
    go_enter Tryz.func116, Tryz.ntmps116
    go_wp2
    all_goals
      go_ret
      refine ⟨?_, ((Below.refl _ _).alloc (Nat.le_refl _) _).alloc (by simp) _⟩
      first
        | exact check_yes (by simp_all [rightDay]; try omega)
        | exact check_no (by simp_all [rightDay]; try omega)
  · clear w1 d1 w2 d2 w4 d4 f1 f2 f4
    have hlt := block_lt_of_cell w3
    go_enter Tryz.func116, Tryz.ntmps116
    go_wp2
    all_goals
      go_ret
      refine ⟨?_, ((Below.refl _ _).alloc (Nat.le_refl _) _).alloc (by simp) _⟩
      first
        | exact check_yes (by simp_all [rightDay]; try omega)
        | exact check_no (by simp_all [rightDay]; try omega)
  · clear w1 d1 w2 d2 w3 d3 f1 f2 f3
    have hlt := block_lt_of_cell w4
    go_enter Tryz.func116, Tryz.ntmps116
    go_wp2
    all_goals
      go_ret
      refine ⟨?_, ((Below.refl _ _).alloc (Nat.le_refl _) _).alloc (by simp) _⟩
      first
        | exact check_yes (by simp_all [rightDay]; try omega)
        | exact check_no (by simp_all [rightDay]; try omega)
end Go.Proofs.YtbdmieelokmhiaaGreatDoor
