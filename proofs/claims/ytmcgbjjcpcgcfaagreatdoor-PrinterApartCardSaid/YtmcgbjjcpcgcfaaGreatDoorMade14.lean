/-
  The sources of the drafts of layer 14: what Made returns.
-/
import Derived.Test.YtmcgbjjcpcgcfaaGreatDoorEraMade14
import Derived.Test.YtmcgbjjcpcgcfaaGreatDoorSrcOwn
set_option linter.unusedVariables false
set_option linter.unusedSimpArgs false
namespace Go.Proofs.YtmcgbjjcpcgcfaaGreatDoor
open Go.RowKit Go.Shelf

def znameM (n : Nat) : List UInt8 := [[65], [69, 117, 114, 111, 112, 101, 47, 68, 117, 98, 108, 105, 110], [69, 116, 99, 47, 71, 77, 84, 43, 49], [66, 95, 50], [67, 47, 68, 47, 69], [70, 45, 49]].getD (n % 6) []
theorem zname_fin : ∀ i : Fin 6, zoneB (znameM i.val) = true := by decide +kernel
theorem zname_right (n : Nat) : zoneB (znameM n) = true := by
  have := zname_fin ⟨n % 6, Nat.mod_lt _ (by decide)⟩
  simpa [znameM] using this
set_option maxRecDepth 100000 in
set_option maxHeartbeats 1000000 in
theorem name14_any (n : Nat) (w : World) (hn : n < 256) : Calls Tryz.prog 51 #[.int .u8 (n : Int)] w fun e w' => e = .returned (.string ⟨(znameM n).toArray⟩) ∧ Below w.heap.size w w' := by
  have htm : ∀ (a : Nat) (b : Int), (a : Int).tmod b = (a : Int) % b := fun a b => Int.tmod_eq_emod_of_nonneg (by omega)
  rcases (by omega : n % 6 = 0 ∨ n % 6 = 1 ∨ n % 6 = 2 ∨ n % 6 = 3 ∨ n % 6 = 4 ∨ n % 6 = 5) with h | h | h | h | h | h
  · have hi : (n : Int) % 6 = 0 := by omega
    have hz := Lib.hid (show znameM n = znameM 0 from by unfold znameM; rw [h])
    clear h hn
    go_enter Tryz.func51, Tryz.ntmps51
    go_wp2_with fail
    go_ret
    exact ⟨by rw [hz.out]; rfl, (Below.refl _ _).alloc (Nat.le_refl _) _⟩
  · have hi : (n : Int) % 6 = 1 := by omega
    have hz := Lib.hid (show znameM n = znameM 1 from by unfold znameM; rw [h])
    clear h hn
    go_enter Tryz.func51, Tryz.ntmps51
    go_wp2_with fail
    go_ret
    exact ⟨by rw [hz.out]; rfl, (Below.refl _ _).alloc (Nat.le_refl _) _⟩
  · have hi : (n : Int) % 6 = 2 := by omega
    have hz := Lib.hid (show znameM n = znameM 2 from by unfold znameM; rw [h])
    clear h hn
    go_enter Tryz.func51, Tryz.ntmps51
    go_wp2_with fail
    go_ret
    exact ⟨by rw [hz.out]; rfl, (Below.refl _ _).alloc (Nat.le_refl _) _⟩
  · have hi : (n : Int) % 6 = 3 := by omega
    have hz := Lib.hid (show znameM n = znameM 3 from by unfold znameM; rw [h])
    clear h hn
    go_enter Tryz.func51, Tryz.ntmps51
    go_wp2_with fail
    go_ret
    exact ⟨by rw [hz.out]; rfl, (Below.refl _ _).alloc (Nat.le_refl _) _⟩
  · have hi : (n : Int) % 6 = 4 := by omega
    have hz := Lib.hid (show znameM n = znameM 4 from by unfold znameM; rw [h])
    clear h hn
    go_enter Tryz.func51, Tryz.ntmps51
    go_wp2_with fail
    go_ret
    exact ⟨by rw [hz.out]; rfl, (Below.refl _ _).alloc (Nat.le_refl _) _⟩
  · have hi : (n : Int) % 6 = 5 := by omega
    have hz := Lib.hid (show znameM n = znameM 5 from by unfold znameM; rw [h])
    clear h hn
    go_enter Tryz.func51, Tryz.ntmps51
    go_wp2_with fail
    go_ret
    exact ⟨by rw [hz.out]; rfl, (Below.refl _ _).alloc (Nat.le_refl _) _⟩
end Go.Proofs.YtmcgbjjcpcgcfaaGreatDoor
