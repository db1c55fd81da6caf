/-
  The references of layers 9 and 2: digits, Check, Parse, Print return what the program's functions return.
-/
import Derived.Test.YtgfnnmdngckmmaaGreatDoorRef9
set_option linter.unusedVariables false
namespace Go.Proofs.YtgfnnmdngckmmaaGreatDoor
open Go.RowKit

theorem digit_ext : ∀ k : Fin 10, ((⟨#[48, 49, 50, 51, 52, 53, 54, 55, 56, 57]⟩ : ByteArray).extract k.val (k.val + 1)).data.toList = Lib.decDigits k.val := by decide +kernel
theorem digit_of (k : Nat) (h : k < 10) : (⟨#[48, 49, 50, 51, 52, 53, 54, 55, 56, 57]⟩ : ByteArray).extract k (k + 1) = ⟨(Lib.decDigits k).toArray⟩ := by
  have := digit_ext ⟨k, h⟩
  apply ByteArray.ext
  rw [← Array.toList_inj]
  exact this
theorem digit_two : ∀ k : Fin 100, 10 ≤ k.val → Lib.decDigits k.val = Lib.decDigits (k.val / 10) ++ Lib.decDigits (k.val % 10) := by decide +kernel

set_option maxHeartbeats 400000 in
theorem rdigits_one (n : Nat) (h : n < 10) (w : World) :
    Calls Tryz.prog 90 #[.int .i64 (n : Int)] w fun e w' => e = .returned (.string ⟨(Lib.decDigits n).toArray⟩) ∧ w' = w := by
  have HD := Lib.hid (digit_of n h)
  have h1 : (n : Int) < 10 := by omega
  have h2 : (0 : Int) ≤ (n : Int) := by omega
  go_enter Tryz.func90, Tryz.ntmps90
  go_wp2_with fail
  go_ret
  exact ⟨by rw [← HD.out]; rfl, rfl⟩

set_option maxRecDepth 100000 in
set_option maxHeartbeats 1000000 in
theorem rdigits_any (n : Nat) (h : n < 100) (w : World) :
    Calls Tryz.prog 90 #[.int .i64 (n : Int)] w fun e w' => e = .returned (.string ⟨(Lib.decDigits n).toArray⟩) ∧ Below w.heap.size w w' := by
  by_cases h10 : n < 10
  · exact (rdigits_one n h10 w).mono fun e w' ⟨h1, h2⟩ => ⟨h1, h2 ▸ Below.refl _ _⟩
  · obtain ⟨d, hd⟩ : ∃ d, d = n / 10 := ⟨_, rfl⟩
    obtain ⟨m, hm⟩ : ∃ m, m = n % 10 := ⟨_, rfl⟩
    have HT := Lib.hid (show Lib.decDigits n = Lib.decDigits d ++ Lib.decDigits m by rw [hd, hm]; exact digit_two ⟨n, h⟩ (by simp; omega))
    have hd10 : d < 10 := by omega
    have hm10 : m < 10 := by omega
    have HD := Lib.hid (digit_of m hm10)
    have q1 : (n : Int).tdiv 10 = (d : Int) := by
      rw [Int.tdiv_eq_ediv_of_nonneg (by omega)]; omega
    have q2 : (n : Int).tmod 10 = (m : Int) := by
      rw [Int.tmod_eq_emod_of_nonneg (by omega)]; omega
    have q3 : IntKind.i64.wrap ((m : Int) + 1) = (m : Int) + 1 := IntWalk.i64_in _ (by omega)
    have q4 : IntKind.i64.wrap (d : Int) = (d : Int) := IntWalk.i64_in _ (by omega)
    have q5 : ((m : Int) + 1).toNat = m + 1 := by omega
    have m0 : (0 : Int) ≤ (m : Int) := by omega
    have m1 : (0 : Int) ≤ (m : Int) + 1 := by omega
    have m2 : (m : Int) + 1 ≤ 10 := by omega
    have m3 : (m : Int) ≤ (m : Int) + 1 := by omega
    have hn1 : ¬ (n : Int) < 10 := by omega
    have hl : (Lib.decDigits d).length ≤ 100 := by
      have h3 : ∀ k : Fin 10, (Lib.decDigits k.val).length ≤ 100 := by decide +kernel
      exact h3 ⟨d, by omega⟩
    have HQ := Lib.hid (fun w => rdigits_one d hd10 w)
    clear h hd hm h10
    generalize Lib.decDigits d = dl at *
    go_enter Tryz.func90, Tryz.ntmps90
    go_wp2_with fail
    go_quiet ((go_at_call 90; exact Calls.quiet_of_same (HQ.out _)))
    go_wp2_with fail
    go_ret
    refine ⟨?_, below_drawn (Below.refl _ _) _⟩
    rw [HT.out, HD.out]
    simp [ba_append]

def inB (n a b : Int) : Bool := decide (a ≤ n ∧ n ≤ b)
set_option maxHeartbeats 400000 in
theorem rin_any (n a b : Int) (w : World) :
    Calls Tryz.prog 122 #[.int .i64 n, .int .i64 a, .int .i64 b] w fun e w' => e = .returned (.bool (inB n a b)) ∧ w' = w := by
  by_cases h1 : a ≤ n
  · by_cases h2 : n ≤ b
    · have HD := Lib.hid (show inB n a b = true from decide_eq_true ⟨h1, h2⟩)
      go_enter Tryz.func122, Tryz.ntmps122
      go_wp2_with fail
      go_ret
      exact ⟨by rw [HD.out]; rfl, rfl⟩
    · have HD := Lib.hid (show inB n a b = false from decide_eq_false (fun h => h2 h.2))
      go_enter Tryz.func122, Tryz.ntmps122
      go_wp2_with fail
      go_ret
      exact ⟨by rw [HD.out]; rfl, rfl⟩
  · have HD := Lib.hid (show inB n a b = false from decide_eq_false (fun h => h1 h.1))
    go_enter Tryz.func122, Tryz.ntmps122
    go_wp2_with fail
    go_ret
    exact ⟨by rw [HD.out]; rfl, rfl⟩

theorem right_eq (k wk d : Int) : rightDay k wk d = ((k == 1 && wk == 0 && inB d 1 31) || (k == 2 && inB wk 0 6 && d == 0) || ((k == 3 || k == 4) && inB wk 0 6 && inB d 1 31)) := rfl

set_option maxRecDepth 100000 in
set_option maxHeartbeats 4000000 in
theorem rcheck_any (k wk d : Int) (w : World) :
    Calls Tryz.prog 88 #[.agg #[.int .i64 k, .int .i64 wk, .int .i64 d]] w fun e w' => e = .returned (.int .i64 (checkR k wk d)) ∧ Below w.heap.size w w' := by
  have HI := Lib.hid (fun w => rin_any wk 0 6 w)
  have HJ := Lib.hid (fun w => rin_any d 1 31 w)
  have HR := Lib.hid (show checkR k wk d = if ((k == 1 && wk == 0 && inB d 1 31) || (k == 2 && inB wk 0 6 && d == 0) || ((k == 3 || k == 4) && inB wk 0 6 && inB d 1 31)) = true then 0 else 2 from rfl)
  generalize inB wk 0 6 = p at *
  generalize inB d 1 31 = q at *
  have hk : (k == 1) = true ∨ ((k == 1) = false ∧ (k == 2) = true) ∨ ((k == 1) = false ∧ (k == 2) = false ∧ (k == 3) = true) ∨ ((k == 1) = false ∧ (k == 2) = false ∧ (k == 3) = false ∧ (k == 4) = true) ∨ ((k == 1) = false ∧ (k == 2) = false ∧ (k == 3) = false ∧ (k == 4) = false) := by
    simp only [beq_iff_eq, beq_eq_false_iff_ne, ne_eq]; omega
  rcases hk with h1 | ⟨h1, h2⟩ | ⟨h1, h2, h3⟩ | ⟨h1, h2, h3, h4⟩ | ⟨h1, h2, h3, h4⟩
  · obtain rfl : k = 1 := by simpa using h1
    clear h1
    cases q <;> cases hw : (wk == 0)
    all_goals
      rw [hw] at HR
      go_enter Tryz.func88, Tryz.ntmps88
      go_wp2_with fail
      go_quiet ((go_at_call 122; first | (with_reducible exact Calls.quiet_of_same (HI.out _)) | (with_reducible exact Calls.quiet_of_same (HJ.out _))))
      go_wp2_with fail
      go_ret
      exact ⟨by rw [HR.out]; simp, below_drawn ((Below.refl _ _).alloc (Nat.le_refl _) _) _⟩
  · obtain rfl : k = 2 := by simpa using h2
    clear h1 h2
    cases p <;> cases hw : (d == 0)
    all_goals
      rw [hw] at HR
      go_enter Tryz.func88, Tryz.ntmps88
      go_wp2_with fail
      go_quiet ((go_at_call 122; first | (with_reducible exact Calls.quiet_of_same (HI.out _)) | (with_reducible exact Calls.quiet_of_same (HJ.out _))))
      go_wp2_with fail
      go_ret
      exact ⟨by rw [HR.out]; simp, below_drawn ((Below.refl _ _).alloc (Nat.le_refl _) _) _⟩
  · obtain rfl : k = 3 := by simpa using h3
    clear h1 h2 h3
    cases p <;> cases q
    all_goals
      go_enter Tryz.func88, Tryz.ntmps88
      go_wp2_with fail
      go_quiet ((go_at_call 122; first | (with_reducible exact Calls.quiet_of_same (HI.out _)) | (with_reducible exact Calls.quiet_of_same (HJ.out _))))
      go_wp2_with fail
      go_ret
      exact ⟨by rw [HR.out]; simp, below_drawn ((Below.refl _ _).alloc (Nat.le_refl _) _) _⟩
  · obtain rfl : k = 4 := by simpa using h4
    clear h1 h2 h3 h4
    cases p <;> cases q
    all_goals
      go_enter Tryz.func88, Tryz.ntmps88
      go_wp2_with fail
      go_quiet ((go_at_call 122; first | (with_reducible exact Calls.quiet_of_same (HI.out _)) | (with_reducible exact Calls.quiet_of_same (HJ.out _))))
      go_wp2_with fail
      go_ret
      exact ⟨by rw [HR.out]; simp, below_drawn ((Below.refl _ _).alloc (Nat.le_refl _) _) _⟩
  · rw [h1, h2, h3, h4] at HR
    go_enter Tryz.func88, Tryz.ntmps88
    go_wp2_with fail
    go_quiet ((go_at_call 122; first | (with_reducible exact Calls.quiet_of_same (HI.out _)) | (with_reducible exact Calls.quiet_of_same (HJ.out _))))
    go_wp2_with fail
    go_ret
    exact ⟨by rw [HR.out]; simp, below_drawn ((Below.refl _ _).alloc (Nat.le_refl _) _) _⟩
end Go.Proofs.YtgfnnmdngckmmaaGreatDoor
