/-
  word.Month, word.To, word.MonthText: what each call returns.
-/
import Derived.Test.YtbdmieelokmhiaaGreatDoorWordText
set_option linter.unusedVariables false
namespace Go.Proofs.YtbdmieelokmhiaaGreatDoor
open Go.RowKit

def monthL : List (List UInt8) := [[106, 97, 110, 117, 97, 114, 121], [102, 101, 98, 114, 117, 97, 114, 121], [109, 97, 114, 99, 104], [97, 112, 114, 105, 108], [109, 97, 121], [106, 117, 110, 101], [106, 117, 108, 121], [97, 117, 103, 117, 115, 116], [115, 101, 112, 116, 101, 109, 98, 101, 114], [111, 99, 116, 111, 98, 101, 114], [110, 111, 118, 101, 109, 98, 101, 114], [100, 101, 99, 101, 109, 98, 101, 114]]
def toL : List (List UInt8) := [[111, 110, 108, 121], [109, 97, 120, 105, 109, 117, 109]]
/-- the tables of months and of the words in place of years -/
def Months (w : World) : Prop := ∀ i l, monthL[i]? = some l → w.cell? ⟨1, i, none⟩ = some (.string ⟨l.toArray⟩)
theorem Months.below {w w' : World} (h : Months w) (hb : Below w.heap.size w w') : Months w' := fun i l hl => (hb.cell (block_lt_of_cell (h i l hl))).trans (h i l hl)
theorem months_words {w : World} (h : Months w) : Words w.heap.size w (.slice (some ⟨1, 0, none⟩) 12 12) monthL :=
  ⟨_, 12, rfl, block_lt_of_cell (h 0 _ rfl), fun j l hl => h j l hl⟩
set_option maxHeartbeats 400000 in
theorem month_any (s : ByteArray) (w : World) (hW : Months w) (hs : s.size ≤ 1048576) :
    Calls Tryz.prog 53 #[.string s] w fun e w' => e = .returned (.tuple #[.int .i64 (wordR monthL 1 s.data.toList).1, .int .i64 (wordR monthL 1 s.data.toList).2]) ∧ Below w.heap.size w w' := by
  have HN := Lib.hid (numbered_any _ monthL 1 s w (months_words hW) (by decide) hs (by decide))
  clear hW
  go_enter Tryz.func53, Tryz.ntmps53
  go_wp2_with fail
  refine HN.out.mono ?_
  rintro e w1 ⟨rfl, hb⟩
  go_wp2_with fail
  go_ret2
  exact ⟨rfl, hb⟩
/-- the short word of a month -/
def monthT (m : Int) : List UInt8 := if 1 ≤ m ∧ m ≤ 12 then shortL (monthL.getD (m - 1).toNat []) else []
theorem monthL_at (i : Nat) (hi : i < 12) : ∃ a b c l, monthL[i]? = some (a :: b :: c :: l) ∧ (97 ≤ a.toNat ∧ a.toNat ≤ 122) ∧ l.length < 100 ∧ monthT ((i : Int) + 1) = [Lib.upperB a, b, c] := by
  rcases (by omega : i = 0 ∨ i = 1 ∨ i = 2 ∨ i = 3 ∨ i = 4 ∨ i = 5 ∨ i = 6 ∨ i = 7 ∨ i = 8 ∨ i = 9 ∨ i = 10 ∨ i = 11) with rfl | rfl | rfl | rfl | rfl | rfl | rfl | rfl | rfl | rfl | rfl | rfl
  all_goals exact ⟨_, _, _, _, rfl, by decide, by decide, by decide⟩
theorem monthT_len (m : Int) : (monthT m).length ≤ 3 := by
  by_cases hm : 1 ≤ m ∧ m ≤ 12
  · obtain ⟨n, hn⟩ := Int.eq_ofNat_of_zero_le (show 0 ≤ m - 1 by omega)
    obtain ⟨a, b, c, l, hl, ha, hn2, ht⟩ := monthL_at n (by omega)
    rw [show m = (n : Int) + 1 by omega, ht]; simp
  · rw [monthT, if_neg hm]; simp

set_option maxHeartbeats 400000 in
theorem monthText_any (m : Int) (w : World) (hW : Months w) (h0 : -1000000 ≤ m) (h1 : m ≤ 1000000) :
    Calls Tryz.prog 122 #[.int .i64 m] w fun e w' => e = .returned (.string ⟨(monthT m).toArray⟩) ∧ Below w.heap.size w w' := by
  by_cases hm : 1 ≤ m ∧ m ≤ 12
  · obtain ⟨n, hn⟩ := Int.eq_ofNat_of_zero_le (show 0 ≤ m - 1 by omega)
    obtain rfl : m = (n : Int) + 1 := by omega
    obtain ⟨a, b, c, l, hl, ha, hn2, ht⟩ := monthL_at n (by omega)
    have HC := Lib.hid (short_in 1 12 12 n (by omega) (by decide) a b c l (by omega) hn2 w (hW n _ hl))
    have HT := Lib.hid ht
    have hn1 : ¬ ((n : Int) + 1 < 1) := by omega
    clear hm hl ht hW hn
    go_enter Tryz.func122, Tryz.ntmps122
    go_wp2_with fail
    refine HC.out.mono ?_
    rintro e w1 ⟨rfl, hb⟩
    go_wp2_with fail
    go_ret
    exact ⟨by rw [HT.out]; rfl, hb⟩
  · have HT := Lib.hid (show monthT m = [] from if_neg hm)
    by_cases h2 : m < 1
    · clear hm hW
      go_enter Tryz.func122, Tryz.ntmps122
      go_wp2_with fail
      go_ret
      exact ⟨by rw [HT.out]; rfl, Below.refl _ _⟩
    · have HC := Lib.hid (short_out 1 12 12 (m - 1) (by omega) w)
      clear hm hW
      go_enter Tryz.func122, Tryz.ntmps122
      go_wp2_with fail
      refine HC.out.mono ?_
      rintro e w1 ⟨rfl, rfl⟩
      go_wp2_with fail
      go_ret
      exact ⟨by rw [HT.out]; rfl, Below.refl _ _⟩
end Go.Proofs.YtbdmieelokmhiaaGreatDoor
