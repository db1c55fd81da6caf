/-
  The walk of analemmalaw41.BigendBack.
-/
import Derived.Test.YtaghbkmommdmgaaBigRow
namespace Go.Proofs.Ytaghbkmommdmgaa
open Go.RowKit

set_option maxHeartbeats 400000 in
theorem sizes_any (w : World) : Calls Try.prog 17 #[] w fun e w' => e = .returned (.slice (some ⟨w.heap.size, 0, none⟩) 3 3) ∧ w' = w.alloc (.cells #[.int .i64 1, .int .i64 4, .int .i64 8] 3) := by
  go_enter Try.func17, Try.ntmps17
  go_wp2
  go_ret
  exact ⟨rfl, rfl⟩

theorem back_cases (x k : Int) (hx : -9223372036854775808 ≤ x ∧ x ≤ 9223372036854775807) :
    (k % 3 = 0 ∧ -128 ≤ x ∧ x < 128 ∧ fits 1 x = true) ∨ (k % 3 = 0 ∧ x < -128 ∧ fits 1 x = false) ∨ (k % 3 = 0 ∧ 128 ≤ x ∧ fits 1 x = false) ∨
    (k % 3 = 1 ∧ -2147483648 ≤ x ∧ x < 2147483648 ∧ fits 4 x = true) ∨ (k % 3 = 1 ∧ x < -2147483648 ∧ fits 4 x = false) ∨ (k % 3 = 1 ∧ 2147483648 ≤ x ∧ fits 4 x = false) ∨
    (k % 3 = 2 ∧ fits 8 x = true) := by
  have h8 := fits8 hx
  rw [fits_1, fits_4, h8]
  by_cases h1 : -128 ≤ x <;> by_cases h2 : x < 128 <;> by_cases h3 : -2147483648 ≤ x <;> by_cases h4 : x < 2147483648 <;> simp [h1, h2, h3, h4] <;> omega

theorem Rd.take {w : World} {A : Option Addr} {n : Nat} {xs : List Int} (h : Rd w A n xs) {k : Nat} (hk : k ≤ n) : Rd w A k (xs.take k) := by
  have := Reads.take h hk
  simpa [Rd, bys_take] using this
theorem Rd.alloc {w : World} {A : Option Addr} {n : Nat} {xs : List Int} (h : Rd w A n xs) (o : Obj) : Rd (w.alloc o) A n xs :=
  (Reads.alloc h (Nat.le_refl _) o).more (by simp)

theorem IsRowU8.max {w : World} {a : Option Addr} {len cap : Nat} {zs : List Int} (h : IsRowU8 w a len cap zs) : len ≤ maxLen := by
  rcases h with ⟨_, rfl, _⟩ | ⟨x, _, hl, hm, _⟩
  · exact Nat.zero_le _
  · exact Nat.le_trans hl hm

set_option maxRecDepth 100000 in
set_option maxHeartbeats 2000000 in
theorem back_walk (A : Option Addr) (m c : Nat) (xs : List Int) (x k : Int) (w : World) (hr : Rd w A m xs) (hc : m ≤ c) (hb8 : ∀ x ∈ xs, 0 ≤ x ∧ x < 256) (hx : -9223372036854775808 ≤ x ∧ x ≤ 9223372036854775807) (hk : 0 ≤ k ∧ k ≤ 255) (hmm : m ≤ maxLen) :
    Calls Try.prog 4 #[.slice A m c, .int .i64 x, .int .u8 k] w fun e w' => e = .returned (.bool true) ∧ Below w.heap.size w w' := by
  unfold maxLen at hmm
  obtain ⟨L, hmin⟩ : ∃ L : Nat, min (m : Int) 50 = (L : Int) := ⟨(min (m : Int) 50).toNat, by omega⟩
  have hL : L ≤ 50 ∧ L ≤ m := by omega
  have HRd := Lib.hid (Rd.take hr hL.2)
  have HB8 := Lib.hid (show ∀ x ∈ xs.take L, 0 ≤ x ∧ x < 256 from fun x hx => hb8 x (List.mem_of_mem_take hx))
  clear hr hb8
  generalize xs.take L = ys at *
  have HLen := Lib.hid (Rd.len HRd.out)
  have fit : ∀ (s : Int) (w1 w0 : World) (v : Value), isSize s = true → fits s x = true → w0.heap.size ≤ w1.heap.size → w1.ownsRow w0.heap.size 5 1 v (putR ys s x).1.length (bys (putR ys s x).1) →
      ∃ A1 c1, v = .slice A1 (L + s.toNat) c1 ∧ L + s.toNat ≤ c1 ∧ Rd w1 A1 (L + s.toNat) (ys ++ be s.toNat x) ∧ (putR ys s x).2 = 0 := by
    intro s w1 w0 v hs hf _ hown
    have e : putR ys s x = (ys ++ be s.toNat x, 0) := by rw [putR, if_neg (by simp [hs]), if_neg (by simp [hf])]
    rw [e] at hown ⊢
    obtain ⟨A1, c1, rfl, h1, h2⟩ := own_slice hown
    simp only [List.length_append, be_length, HLen.out] at h1 h2 ⊢
    exact ⟨A1, c1, rfl, h1, h2, trivial⟩
  have FIT := Lib.hid fit
  clear fit
  have no : ∀ (s : Int) (w1 w0 : World) (v : Value), isSize s = true → fits s x = false → w1.ownsRow w0.heap.size 5 1 v (putR ys s x).1.length (bys (putR ys s x).1) →
      ∃ A1 c1, v = .slice A1 0 c1 ∧ (putR ys s x).2 = 3 := by
    intro s w1 w0 v hs hf hown
    have e : putR ys s x = ([], 3) := by rw [putR, if_neg (by simp [hs]), if_pos hf]
    rw [e] at hown ⊢
    obtain ⟨A1, c1, rfl, _⟩ := own_slice hown
    exact ⟨A1, c1, rfl, rfl⟩
  have NO := Lib.hid no
  clear no
  rcases back_cases x k hx with ⟨hk3, h1, h2, hf⟩ | ⟨hk3, h1, hf⟩ | ⟨hk3, h1, hf⟩ | ⟨hk3, h1, h2, hf⟩ | ⟨hk3, h1, hf⟩ | ⟨hk3, h1, hf⟩ | ⟨hk3, hf⟩
  · have HF := Lib.hid hf
    have HG := Lib.hid (show getR (ys ++ be (Int.toNat 1) x) (L : Int) 1 = (x, 0) by rw [← HLen.out]; exact get_put (by decide) hx hf)
    have HX := Lib.hid (show ∀ y ∈ ys ++ be (Int.toNat 1) x, 0 ≤ y ∧ y < 256 by
      intro y hy
      rcases List.mem_append.1 hy with h | h
      · exact HB8.out y h
      · exact be_bd _ _ y h)
    clear hf
    go_enter Try.func4, Try.ntmps4
    go_wp2_with (go_at_call 17; refine (sizes_any _).mono ?_; rintro e w' ⟨rfl, rfl⟩)
    refine (put_any _ _ _ _ _ _ _ (Rd.alloc HRd.out _) (by omega)).mono ?_
    rintro e w1 ⟨v, rfl, hown, hb1⟩
    have hbw : Below w.heap.size w w1 := ((Below.refl _ w).alloc (Nat.le_refl _) _).trans (hb1.mono (by simp))
    obtain ⟨A1, c1, rfl, hc1, hr1, he⟩ := FIT.out _ _ _ _ (by decide) HF.out hb1.size hown
    rw [he]
    have HR1 := Lib.hid hr1
    have HRw := Lib.hid (Rd.below HRd.out hbw)
    clear hown hb1 hr1 he
    go_wp2_with fail
    refine (get_any _ _ _ _ _ _ _ HR1.out (by omega) hc1 HX.out).mono ?_
    rintro e w2 ⟨rfl, hb2⟩
    rw [HG.out]
    have HQ := Lib.hid (show Rd w2 A1 L ys by
      have := Rd.take (Rd.below HR1.out hb2) (k := L) (by omega)
      rwa [List.take_left' HLen.out] at this)
    have HRw2 := Lib.hid (Rd.below HRw.out hb2)
    have hbw2 := hbw.trans (hb2.mono hbw.size)
    clear hb2 hbw
    go_wp2_with fail
    refine (equal_same _ _ _ _ _ _ _ _ HQ.out HRw2.out).mono ?_
    rintro e w3 ⟨rfl, rfl⟩
    go_wp2_with fail
    refine (works_any _).mono ?_
    rintro e w4 ⟨rfl, hb4⟩
    have hbw4 := hbw2.trans (hb4.mono hbw2.size)
    clear hb4 hbw2
    go_wp2_with fail
    go_ret
    exact ⟨rfl, hbw4⟩
  · have HF := Lib.hid hf
    clear hf
    go_enter Try.func4, Try.ntmps4
    go_wp2_with (go_at_call 17; refine (sizes_any _).mono ?_; rintro e w' ⟨rfl, rfl⟩)
    refine (put_any _ _ _ _ _ _ _ (Rd.alloc HRd.out _) (by omega)).mono ?_
    rintro e w1 ⟨v, rfl, hown, hb1⟩
    have hbw : Below w.heap.size w w1 := ((Below.refl _ w).alloc (Nat.le_refl _) _).trans (hb1.mono (by simp))
    obtain ⟨A1, c1, rfl, he⟩ := NO.out _ _ _ _ (by decide) HF.out hown
    rw [he]
    clear hown hb1 he
    go_wp2_with fail
    refine (works_any _).mono ?_
    rintro e w4 ⟨rfl, hb4⟩
    have hbw4 := hbw.trans (hb4.mono hbw.size)
    clear hb4 hbw
    go_wp2_with fail
    go_ret
    exact ⟨rfl, hbw4⟩
  · have HF := Lib.hid hf
    clear hf
    have h0 : decide (x < 128) = false := by simp; omega
    go_enter Try.func4, Try.ntmps4
    go_wp2_with (go_at_call 17; refine (sizes_any _).mono ?_; rintro e w' ⟨rfl, rfl⟩)
    refine (put_any _ _ _ _ _ _ _ (Rd.alloc HRd.out _) (by omega)).mono ?_
    rintro e w1 ⟨v, rfl, hown, hb1⟩
    have hbw : Below w.heap.size w w1 := ((Below.refl _ w).alloc (Nat.le_refl _) _).trans (hb1.mono (by simp))
    obtain ⟨A1, c1, rfl, he⟩ := NO.out _ _ _ _ (by decide) HF.out hown
    rw [he]
    clear hown hb1 he
    go_wp2_with fail
    refine (works_any _).mono ?_
    rintro e w4 ⟨rfl, hb4⟩
    have hbw4 := hbw.trans (hb4.mono hbw.size)
    clear hb4 hbw
    go_wp2_with fail
    go_ret
    exact ⟨rfl, hbw4⟩
  · have HF := Lib.hid hf
    have HG := Lib.hid (show getR (ys ++ be (Int.toNat 4) x) (L : Int) 4 = (x, 0) by rw [← HLen.out]; exact get_put (by decide) hx hf)
    have HX := Lib.hid (show ∀ y ∈ ys ++ be (Int.toNat 4) x, 0 ≤ y ∧ y < 256 by
      intro y hy
      rcases List.mem_append.1 hy with h | h
      · exact HB8.out y h
      · exact be_bd _ _ y h)
    clear hf
    go_enter Try.func4, Try.ntmps4
    go_wp2_with (go_at_call 17; refine (sizes_any _).mono ?_; rintro e w' ⟨rfl, rfl⟩)
    refine (put_any _ _ _ _ _ _ _ (Rd.alloc HRd.out _) (by omega)).mono ?_
    rintro e w1 ⟨v, rfl, hown, hb1⟩
    have hbw : Below w.heap.size w w1 := ((Below.refl _ w).alloc (Nat.le_refl _) _).trans (hb1.mono (by simp))
    obtain ⟨A1, c1, rfl, hc1, hr1, he⟩ := FIT.out _ _ _ _ (by decide) HF.out hb1.size hown
    rw [he]
    have HR1 := Lib.hid hr1
    have HRw := Lib.hid (Rd.below HRd.out hbw)
    clear hown hb1 hr1 he
    go_wp2_with fail
    refine (get_any _ _ _ _ _ _ _ HR1.out (by omega) hc1 HX.out).mono ?_
    rintro e w2 ⟨rfl, hb2⟩
    rw [HG.out]
    have HQ := Lib.hid (show Rd w2 A1 L ys by
      have := Rd.take (Rd.below HR1.out hb2) (k := L) (by omega)
      rwa [List.take_left' HLen.out] at this)
    have HRw2 := Lib.hid (Rd.below HRw.out hb2)
    have hbw2 := hbw.trans (hb2.mono hbw.size)
    clear hb2 hbw
    go_wp2_with fail
    refine (equal_same _ _ _ _ _ _ _ _ HQ.out HRw2.out).mono ?_
    rintro e w3 ⟨rfl, rfl⟩
    go_wp2_with fail
    refine (works_any _).mono ?_
    rintro e w4 ⟨rfl, hb4⟩
    have hbw4 := hbw2.trans (hb4.mono hbw2.size)
    clear hb4 hbw2
    go_wp2_with fail
    go_ret
    exact ⟨rfl, hbw4⟩
  · have HF := Lib.hid hf
    clear hf
    go_enter Try.func4, Try.ntmps4
    go_wp2_with (go_at_call 17; refine (sizes_any _).mono ?_; rintro e w' ⟨rfl, rfl⟩)
    refine (put_any _ _ _ _ _ _ _ (Rd.alloc HRd.out _) (by omega)).mono ?_
    rintro e w1 ⟨v, rfl, hown, hb1⟩
    have hbw : Below w.heap.size w w1 := ((Below.refl _ w).alloc (Nat.le_refl _) _).trans (hb1.mono (by simp))
    obtain ⟨A1, c1, rfl, he⟩ := NO.out _ _ _ _ (by decide) HF.out hown
    rw [he]
    clear hown hb1 he
    go_wp2_with fail
    refine (works_any _).mono ?_
    rintro e w4 ⟨rfl, hb4⟩
    have hbw4 := hbw.trans (hb4.mono hbw.size)
    clear hb4 hbw
    go_wp2_with fail
    go_ret
    exact ⟨rfl, hbw4⟩
  · have HF := Lib.hid hf
    clear hf
    have h0 : decide (x < 2147483648) = false := by simp; omega
    go_enter Try.func4, Try.ntmps4
    go_wp2_with (go_at_call 17; refine (sizes_any _).mono ?_; rintro e w' ⟨rfl, rfl⟩)
    refine (put_any _ _ _ _ _ _ _ (Rd.alloc HRd.out _) (by omega)).mono ?_
    rintro e w1 ⟨v, rfl, hown, hb1⟩
    have hbw : Below w.heap.size w w1 := ((Below.refl _ w).alloc (Nat.le_refl _) _).trans (hb1.mono (by simp))
    obtain ⟨A1, c1, rfl, he⟩ := NO.out _ _ _ _ (by decide) HF.out hown
    rw [he]
    clear hown hb1 he
    go_wp2_with fail
    refine (works_any _).mono ?_
    rintro e w4 ⟨rfl, hb4⟩
    have hbw4 := hbw.trans (hb4.mono hbw.size)
    clear hb4 hbw
    go_wp2_with fail
    go_ret
    exact ⟨rfl, hbw4⟩
  · have HF := Lib.hid hf
    have HG := Lib.hid (show getR (ys ++ be (Int.toNat 8) x) (L : Int) 8 = (x, 0) by rw [← HLen.out]; exact get_put (by decide) hx hf)
    have HX := Lib.hid (show ∀ y ∈ ys ++ be (Int.toNat 8) x, 0 ≤ y ∧ y < 256 by
      intro y hy
      rcases List.mem_append.1 hy with h | h
      · exact HB8.out y h
      · exact be_bd _ _ y h)
    clear hf
    go_enter Try.func4, Try.ntmps4
    go_wp2_with (go_at_call 17; refine (sizes_any _).mono ?_; rintro e w' ⟨rfl, rfl⟩)
    refine (put_any _ _ _ _ _ _ _ (Rd.alloc HRd.out _) (by omega)).mono ?_
    rintro e w1 ⟨v, rfl, hown, hb1⟩
    have hbw : Below w.heap.size w w1 := ((Below.refl _ w).alloc (Nat.le_refl _) _).trans (hb1.mono (by simp))
    obtain ⟨A1, c1, rfl, hc1, hr1, he⟩ := FIT.out _ _ _ _ (by decide) HF.out hb1.size hown
    rw [he]
    have HR1 := Lib.hid hr1
    have HRw := Lib.hid (Rd.below HRd.out hbw)
    clear hown hb1 hr1 he
    go_wp2_with fail
    refine (get_any _ _ _ _ _ _ _ HR1.out (by omega) hc1 HX.out).mono ?_
    rintro e w2 ⟨rfl, hb2⟩
    rw [HG.out]
    have HQ := Lib.hid (show Rd w2 A1 L ys by
      have := Rd.take (Rd.below HR1.out hb2) (k := L) (by omega)
      rwa [List.take_left' HLen.out] at this)
    have HRw2 := Lib.hid (Rd.below HRw.out hb2)
    have hbw2 := hbw.trans (hb2.mono hbw.size)
    clear hb2 hbw
    go_wp2_with fail
    refine (equal_same _ _ _ _ _ _ _ _ HQ.out HRw2.out).mono ?_
    rintro e w3 ⟨rfl, rfl⟩
    go_wp2_with fail
    refine (works_any _).mono ?_
    rintro e w4 ⟨rfl, hb4⟩
    have hbw4 := hbw2.trans (hb4.mono hbw2.size)
    clear hb4 hbw2
    go_wp2_with fail
    go_ret
    exact ⟨rfl, hbw4⟩
end Go.Proofs.Ytaghbkmommdmgaa
