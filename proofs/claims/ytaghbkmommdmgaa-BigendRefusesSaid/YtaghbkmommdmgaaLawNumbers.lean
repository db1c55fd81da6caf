/-
  The walk of analemmalaw41.BigendNumbers.
-/
import Derived.Test.YtaghbkmommdmgaaBigRefP
import Derived.Test.YtaghbkmommdmgaaLawBack
namespace Go.Proofs.Ytaghbkmommdmgaa
open Go.RowKit

theorem getR_pair (xs : List Int) (a n : Int) : ∃ y z, getR xs a n = (y, z) := ⟨_, _, rfl⟩
/-- what RetOwnE says, with the pair named -/
theorem ret_open {w : World} {r : List Int × Int} {e : Ending} {w' : World} (h : RetOwnE w r e w') {l : List Int} {z : Int} (hr : r = (l, z)) :
    ∃ A c, e = .returned (.tuple #[.slice A l.length c, .int .i64 z]) ∧ l.length ≤ c ∧ Rd w' A l.length l ∧ Below w.heap.size w w' := by
  subst hr
  obtain ⟨v, rfl, hown, hb⟩ := h
  obtain ⟨A, c, rfl, hc, hrd⟩ := own_slice hown
  exact ⟨A, c, rfl, hc, hrd, hb⟩

set_option maxRecDepth 100000 in
set_option maxHeartbeats 2000000 in
theorem numbers_walk (A : Option Addr) (m c : Nat) (xs : List Int) (a n x : Int) (w : World) (hr : Rd w A m xs) (hc : m ≤ c) (hb8 : ∀ x ∈ xs, 0 ≤ x ∧ x < 256) (hx : -9223372036854775808 ≤ x ∧ x ≤ 9223372036854775807) (hmm : m ≤ maxLen) :
    Calls Try.prog 3 #[.slice A m c, .int .i64 a, .int .i64 n, .int .i64 x] w fun e w' => e = .returned (.bool true) ∧ Below w.heap.size w w' := by
  unfold maxLen at hmm
  have HRd := Lib.hid hr
  have HB8 := Lib.hid hb8
  clear hr hb8
  by_cases hbig : 200 < m
  · go_enter Try.func3, Try.ntmps3
    go_wp2_with (go_at_call 8; refine (works_any _).mono ?_; rintro e w' ⟨rfl, hb⟩)
    go_ret
    exact ⟨rfl, hb⟩
  obtain ⟨pl, pe, hp⟩ : ∃ l z, putR xs n x = (l, z) := ⟨_, _, rfl⟩
  obtain ⟨gy, gz, hg⟩ : ∃ y z, getR xs a n = (y, z) := ⟨_, _, rfl⟩
  obtain ⟨bl, bz, hbb⟩ : ∃ l z, bytesR xs a n = (l, z) := ⟨_, _, rfl⟩
  have HP := Lib.hid hp
  have HG := Lib.hid hg
  have HB := Lib.hid hbb
  clear hp hg hbb
  go_enter Try.func3, Try.ntmps3
  go_wp2_with fail
  refine (clone_any _ _ _ _ _ HRd.out (by omega)).mono ?_
  rintro e w1 ⟨v, rfl, hown, hb1⟩
  obtain ⟨A1, c1, rfl, hc1, hr1⟩ := own_slice hown
  have HR1 := Lib.hid (show Rd w1 A1 m xs from hr1)
  have HRw1 := Lib.hid (Rd.below HRd.out hb1)
  clear hown hr1
  go_wp2_with fail
  refine (put_any _ _ _ _ _ _ _ HR1.out (by omega)).mono ?_
  intro e w2 hret
  obtain ⟨A2, c2, rfl, hc2, hr2, hb2⟩ := ret_open hret HP.out
  have HP2 := Lib.hid hr2
  have HR2 := Lib.hid (Rd.below HR1.out hb2)
  have HRw2 := Lib.hid (Rd.below HRw1.out hb2)
  have hbw2 := hb1.trans (hb2.mono hb1.size)
  clear hret hr2 hb2 hb1 HR1 HRw1
  go_wp2_with fail
  refine (rput_any _ _ _ _ _ _ _ HRw2.out (by omega) hx).mono ?_
  intro e w3 hret
  obtain ⟨A3, c3, rfl, hc3, hr3, hb3⟩ := ret_open hret HP.out
  have HQ3 := Lib.hid hr3
  have HP3 := Lib.hid (Rd.below HP2.out hb3)
  have HR3 := Lib.hid (Rd.below HR2.out hb3)
  have HRw3 := Lib.hid (Rd.below HRw2.out hb3)
  have hbw3 := hbw2.trans (hb3.mono hbw2.size)
  clear hret hr3 hb3 hbw2 HP2 HR2 HRw2
  go_wp2_with fail
  refine (get_any _ _ _ _ _ _ _ HR3.out (by omega) hc1 HB8.out).mono ?_
  rintro e w4 ⟨rfl, hb4⟩
  rw [HG.out]
  have HQ4 := Lib.hid (Rd.below HQ3.out hb4)
  have HP4 := Lib.hid (Rd.below HP3.out hb4)
  have HR4 := Lib.hid (Rd.below HR3.out hb4)
  have HRw4 := Lib.hid (Rd.below HRw3.out hb4)
  have hbw4 := hbw3.trans (hb4.mono hbw3.size)
  clear hb4 hbw3 HQ3 HP3 HR3 HRw3
  go_wp2_with fail
  refine (rget_any _ _ _ _ _ _ _ HRw4.out (by omega) hc HB8.out).mono ?_
  rintro e w5 ⟨rfl, hb5⟩
  rw [HG.out]
  have HQ5 := Lib.hid (Rd.below HQ4.out hb5)
  have HP5 := Lib.hid (Rd.below HP4.out hb5)
  have HR5 := Lib.hid (Rd.below HR4.out hb5)
  have HRw5 := Lib.hid (Rd.below HRw4.out hb5)
  have hbw5 := hbw4.trans (hb5.mono hbw4.size)
  clear hb5 hbw4 HQ4 HP4 HR4 HRw4
  go_wp2_with fail
  refine (bytes_any _ _ _ _ _ _ _ HR5.out (by omega) hc1).mono ?_
  intro e w6 hret
  obtain ⟨A6, c6, rfl, hc6, hr6, hb6⟩ := ret_open hret HB.out
  have HB6 := Lib.hid hr6
  have HQ6 := Lib.hid (Rd.below HQ5.out hb6)
  have HP6 := Lib.hid (Rd.below HP5.out hb6)
  have HR6 := Lib.hid (Rd.below HR5.out hb6)
  have HRw6 := Lib.hid (Rd.below HRw5.out hb6)
  have hbw6 := hbw5.trans (hb6.mono hbw5.size)
  clear hret hr6 hb6 hbw5 HQ5 HP5 HR5 HRw5
  go_wp2_with fail
  refine (rbytes_any _ _ _ _ _ _ _ HRw6.out (by omega) hc).mono ?_
  intro e w7 hret
  obtain ⟨A7, c7, rfl, hc7, hr7, hb7⟩ := ret_open hret HB.out
  have HC7 := Lib.hid hr7
  have HB7 := Lib.hid (Rd.below HB6.out hb7)
  have HQ7 := Lib.hid (Rd.below HQ6.out hb7)
  have HP7 := Lib.hid (Rd.below HP6.out hb7)
  have HR7 := Lib.hid (Rd.below HR6.out hb7)
  have HRw7 := Lib.hid (Rd.below HRw6.out hb7)
  have hbw7 := hbw6.trans (hb7.mono hbw6.size)
  clear hret hr7 hb7 hbw6 HB6 HQ6 HP6 HR6 HRw6
  go_wp2_with fail
  refine (equal_same _ _ _ _ _ _ _ _ HP7.out HQ7.out).mono ?_
  rintro e w8 ⟨rfl, rfl⟩
  go_wp2_with fail
  refine (equal_same _ _ _ _ _ _ _ _ HB7.out HC7.out).mono ?_
  rintro e w8 ⟨rfl, rfl⟩
  go_wp2_with fail
  refine (equal_same _ _ _ _ _ _ _ _ HR7.out HRw7.out).mono ?_
  rintro e w8 ⟨rfl, rfl⟩
  go_wp2_with fail
  refine (works_any _).mono ?_
  rintro e w9 ⟨rfl, hb9⟩
  have hbw9 := hbw7.trans (hb9.mono hbw7.size)
  clear hb9 hbw7
  go_wp2_with fail
  go_ret
  exact ⟨rfl, hbw9⟩
end Go.Proofs.Ytaghbkmommdmgaa
