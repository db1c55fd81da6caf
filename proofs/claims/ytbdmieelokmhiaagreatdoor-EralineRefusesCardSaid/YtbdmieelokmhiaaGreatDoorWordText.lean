/-
  word.short of the weekdays, word.WeekText.
-/
import Derived.Test.YtbdmieelokmhiaaGreatDoorWordWeek
import Derived.Test.YtbdmieelokmhiaaGreatDoorShelf
import Derived.Deep.RegionHeld3
set_option linter.unusedVariables false
namespace Go.Proofs.YtbdmieelokmhiaaGreatDoor
open Go.RowKit

/-- the short word of a weekday -/
def shortL : List UInt8 → List UInt8
  | a :: b :: c :: _ => [Lib.upperB a, b, c]
  | l => l
def weekT (i : Int) : List UInt8 := if 0 ≤ i ∧ i < 7 then shortL (weekL.getD i.toNat []) else []

theorem upper_any (s : ByteArray) (w : World) (hs : s.size ≤ 140737488355328) (ha : ∀ (j : Nat) (b : UInt8), s.data.toList[j]? = some b → b.toNat < 128) :
    Calls Tryz.prog 177 #[.string s] w fun e w' => e = .returned (.string ⟨(Lib.toUpperA s.data.toList).toArray⟩) ∧ Below w.heap.size w w' :=
  Any.strings_ToUpper_ascii Tryz.lays158 Tryz.Builder_Extra_158 s w hs ha

theorem upper_one (a : UInt8) (ha : a.toNat < 128) (g i : Nat) (v : Value) (w : World) (hc : w.cell? ⟨g, i, none⟩ = some v) :
    Calls Tryz.prog 177 #[.string ⟨#[a]⟩] w fun e w' => e = .returned (.string ⟨#[Lib.upperB a]⟩) ∧ Below w.heap.size w w' ∧ w'.cell? ⟨g, i, none⟩ = some v :=
  (upper_any ⟨#[a]⟩ w (by show 1 ≤ _; decide) (fun j b h => by
    match j, h with
    | 0, h => cases h; exact ha
    | j + 1, h => simp at h)).mono fun e w' ⟨h1, h2⟩ => ⟨h1, h2, (h2.cell (block_lt_of_cell hc)).trans hc⟩

set_option maxRecDepth 100000 in
set_option maxHeartbeats 1000000 in
theorem short_in (g n cap i : Nat) (hi : i < n) (hn : n ≤ 100) (a b c : UInt8) (l : List UInt8) (ha : a.toNat < 128) (hl : l.length < 100) (w : World) (hc : w.cell? ⟨g, i, none⟩ = some (.string ⟨(a :: b :: c :: l).toArray⟩)) :
    Calls Tryz.prog 152 #[.slice (some ⟨g, 0, none⟩) n cap, .int .i64 (i : Int)] w fun e w' => e = .returned (.string ⟨#[Lib.upperB a, b, c]⟩) ∧ Below w.heap.size w w' := by
  obtain ⟨s, hs⟩ : ∃ s : ByteArray, s = ⟨(a :: b :: c :: l).toArray⟩ := ⟨_, rfl⟩
  have hsz : s.size = l.length + 3 := by rw [hs]; show (a :: b :: c :: l).length = _; simp
  have h01 : s.extract 0 1 = ⟨#[a]⟩ := by rw [hs]; apply ByteArray.ext; simp [ByteArray.data_extract]
  have h13 : s.extract 1 3 = ⟨#[b, c]⟩ := by rw [hs]; apply ByteArray.ext; simp [ByteArray.data_extract]
  rw [← hs] at hc
  have i0 : (0 : Int) ≤ (i : Int) := by omega
  have i7 : (i : Int) < (n : Int) := by omega
  have i8 : ¬ ((n : Int) ≤ (i : Int)) := by omega
  have z1 : (1 : Int) ≤ (s.size : Int) := by omega
  have z3 : (3 : Int) ≤ (s.size : Int) := by omega
  have h63 : ¬ (9223372036854775807 < 1 + (min 3 s.size - 1)) := by omega
  have HS := Lib.hid hsz
  have H01 := Lib.hid h01
  have H13 := Lib.hid h13
  clear hs hsz h01 h13
  go_enter Tryz.func152, Tryz.ntmps152
  go_wp2_with fail
  go_region_held3 (fun w' => w'.cell? ⟨g, i, none⟩ = some (.string s)) (go_keep) ((go_at_call 177; rw [H01.out]; refine (upper_one a ha g i (.string s) _ (by assumption)).mono ?_; rintro e w' ⟨rfl, hb2, hc2⟩))
  all_goals go_wp2
  all_goals go_ret
  all_goals exact ⟨by rw [H13.out]; rfl, (Below.refl w.heap.size w).drew.trans hb2⟩

set_option maxHeartbeats 400000 in
theorem short_out (g n cap : Nat) (i : Int) (hi : i < 0 ∨ (n : Int) ≤ i) (w : World) :
    Calls Tryz.prog 152 #[.slice (some ⟨g, 0, none⟩) n cap, .int .i64 i] w fun e w' => e = .returned (.string ⟨#[]⟩) ∧ w = w' := by
  by_cases h0 : i < 0
  · clear hi
    go_enter Tryz.func152, Tryz.ntmps152
    go_wp2
    go_ret
    exact ⟨rfl, rfl⟩
  · have h1 : (n : Int) ≤ i := by omega
    clear hi
    go_enter Tryz.func152, Tryz.ntmps152
    go_wp2
    go_ret
    exact ⟨rfl, rfl⟩

theorem weekL_at (i : Nat) (hi : i < 7) : ∃ a b c l, weekL[i]? = some (a :: b :: c :: l) ∧ a.toNat < 128 ∧ l.length < 100 ∧ weekT (i : Int) = [Lib.upperB a, b, c] := by
  rcases (by omega : i = 0 ∨ i = 1 ∨ i = 2 ∨ i = 3 ∨ i = 4 ∨ i = 5 ∨ i = 6) with rfl | rfl | rfl | rfl | rfl | rfl | rfl
  all_goals exact ⟨_, _, _, _, rfl, by decide, by decide, by decide⟩

set_option maxHeartbeats 400000 in
theorem weekText_any (i : Int) (w : World) (hW : Weeks w) :
    Calls Tryz.prog 151 #[.int .i64 i] w fun e w' => e = .returned (.string ⟨(weekT i).toArray⟩) ∧ Below w.heap.size w w' := by
  by_cases hi : 0 ≤ i ∧ i < 7
  · obtain ⟨n, rfl⟩ := Int.eq_ofNat_of_zero_le hi.1
    obtain ⟨a, b, c, l, hl, ha, hn, ht⟩ := weekL_at n (by omega)
    have HC := Lib.hid (short_in 7 7 7 n (by omega) (by decide) a b c l ha hn w (hW n _ hl))
    have HT := Lib.hid ht
    clear hi hl ht hW
    go_enter Tryz.func151, Tryz.ntmps151
    go_wp2_with fail
    refine HC.out.mono ?_
    rintro e w1 ⟨rfl, hb⟩
    go_wp2_with fail
    go_ret
    exact ⟨by rw [HT.out]; rfl, hb⟩
  · have HC := Lib.hid (short_out 7 7 7 i (by omega) w)
    have HT := Lib.hid (show weekT i = [] from if_neg hi)
    clear hi hW
    go_enter Tryz.func151, Tryz.ntmps151
    go_wp2_with fail
    refine HC.out.mono ?_
    rintro e w1 ⟨rfl, rfl⟩
    go_wp2_with fail
    go_ret
    exact ⟨by rw [HT.out]; rfl, Below.refl _ _⟩
end Go.Proofs.YtbdmieelokmhiaaGreatDoor
