/-
  The walk of analemmalaw41.BigendOrder.
-/
import Derived.Test.YtaghbkmommdmgaaBigW
import Derived.Test.YtaghbkmommdmgaaBigCmp
namespace Go.Proofs.Ytaghbkmommdmgaa
open Go.RowKit

theorem Rd.at8 {w : World} {A : Option Addr} {n : Nat} {xs : List Int} (h : Rd w A n xs) (hn : 0 < n) : ∃ a, A = some a ∧ ∀ j x, xs[j]? = some x → w.cell? (a.add j) = some (.int .u8 x) := by
  obtain ⟨a, rfl, _, hc⟩ := h.2 hn
  exact ⟨a, rfl, fun j x hx => hc j _ (by simp [bys, hx])⟩

set_option maxHeartbeats 400000 in
theorem compare_any (a b : Addr) (n m c d : Nat) (xs ys : List Int) (w : World) (hx : xs.length = n) (hy : ys.length = m) (ha : ∀ j x, xs[j]? = some x → w.cell? (a.add j) = some (.int .u8 x)) (hb : ∀ j x, ys[j]? = some x → w.cell? (b.add j) = some (.int .u8 x)) :
    Calls Try.prog 18 #[.slice (some a) n c, .slice (some b) m d] w fun e w' => e = .returned (.int .i64 (Lib.compareBytes (Lib.bytesOf xs) (Lib.bytesOf ys))) ∧ w = w' := by
  subst hx hy
  have hr := Lib.hid (run_cmp_rows (P := Try.prog) w a b c d xs ys ha hb)
  clear ha hb
  go_enter Try.func18, Try.ntmps18
  go_wp2
  rw [run_callFunc_extern Try.func21 (by kernel_rfl) (by kernel_rfl) (by kernel_rfl) (e := Extern.BytealgCompare.compare) (by kernel_rfl), hr.out]
  simp only [Result.andThen]
  rw [Oper.upon_value]
  go_wp2
  go_ret
  exact ⟨rfl, rfl⟩

theorem order_cases {x y : Int} (hx : -9223372036854775808 ≤ x ∧ x ≤ 9223372036854775807) (hy : -9223372036854775808 ≤ y ∧ y ≤ 9223372036854775807) :
    ∃ (b1 b2 : Bool) (o : Int), decide (x < 0) = b1 ∧ decide (y < 0) = b2 ∧ Lib.compareBytes (Lib.bytesOf (be 8 x)) (Lib.bytesOf (be 8 y)) = o ∧
      ((b1 = b2 ∧ x < y ∧ o = -1) ∨ (b1 = b2 ∧ y < x ∧ o = 1) ∨ (b1 = b2 ∧ x = y ∧ o = 0) ∨ (b1 = (!b2) ∧ y < x ∧ o = -1) ∨ (b1 = (!b2) ∧ x < y ∧ o = 1)) := by
  refine ⟨_, _, _, rfl, rfl, rfl, ?_⟩
  by_cases h : x < 0 ↔ y < 0
  · have e : decide (x < 0) = decide (y < 0) := by simp [h]
    rw [cmp_same hx hy h, cmpI]
    by_cases h1 : x < y
    · exact .inl ⟨e, h1, by rw [if_pos h1]⟩
    · by_cases h2 : y < x
      · exact .inr (.inl ⟨e, h2, by rw [if_neg h1, if_pos h2]⟩)
      · exact .inr (.inr (.inl ⟨e, by omega, by rw [if_neg h1, if_neg h2]⟩))
  · have e : decide (x < 0) = !decide (y < 0) := by
      by_cases h1 : x < 0 <;> by_cases h2 : y < 0 <;> simp_all
    rw [cmp_other hx hy h, cmpI]
    by_cases h1 : y < x
    · exact .inr (.inr (.inr (.inl ⟨e, h1, by rw [if_pos h1]⟩)))
    · by_cases h2 : x < y
      · exact .inr (.inr (.inr (.inr ⟨e, h2, by rw [if_neg h1, if_pos h2]⟩)))
      · obtain rfl : x = y := by omega
        exact absurd Iff.rfl h

set_option maxRecDepth 100000 in
set_option maxHeartbeats 1000000 in
theorem order_walk (x y : Int) (w : World) (hx : -9223372036854775808 ≤ x ∧ x ≤ 9223372036854775807) (hy : -9223372036854775808 ≤ y ∧ y ≤ 9223372036854775807) :
    Calls Try.prog 7 #[.int .i64 x, .int .i64 y] w fun e w' => e = .returned (.bool true) ∧ Below w.heap.size w w' := by
  have HP := Lib.hid (put8 [] hx)
  have HQ := Lib.hid (put8 [] hy)
  obtain ⟨b1, b2, o, h1, h2, hc, hcase⟩ := order_cases hx hy
  have HC := Lib.hid hc
  clear hc
  rcases hcase with ⟨rfl, hlt, rfl⟩ | ⟨rfl, hlt, rfl⟩ | ⟨rfl, rfl, rfl⟩ | ⟨rfl, hlt, rfl⟩ | ⟨rfl, hlt, rfl⟩
  all_goals
    go_enter Try.func7, Try.ntmps7
    go_wp2_with fail
    refine (put_any _ _ _ _ _ _ _ (rd_none w) (by omega)).mono ?_
    rintro e w1 ⟨v, rfl, hown, hb1⟩
    rw [HP.out] at hown ⊢
    obtain ⟨A, c, rfl, _, hr⟩ := own_slice hown
    simp only [List.nil_append, be_length] at hr hown ⊢
    have HR := Lib.hid (show Rd w1 A 8 (be 8 x) from hr)
    clear hown hr
    go_wp2_with fail
    refine (put_any _ _ _ _ _ _ _ (rd_none w1) (by omega)).mono ?_
    rintro e w2 ⟨v, rfl, hown, hb2⟩
    first | rw [HQ.out] at hown ⊢ | rw [HP.out] at hown ⊢
    obtain ⟨A2, c2, rfl, _, hr⟩ := own_slice hown
    simp only [List.nil_append, be_length] at hr hown ⊢
    have HR1 := Lib.hid (Rd.below HR.out hb2)
    have hb02 := hb1.trans (hb2.mono hb1.size)
    obtain ⟨ad, rfl, hca⟩ := Rd.at8 HR1.out (by omega)
    obtain ⟨bd, rfl, hcb⟩ := Rd.at8 (show Rd w2 A2 8 _ from hr) (by omega)
    have HA := Lib.hid hca
    have HB := Lib.hid hcb
    clear hown hr hb1 hb2 HR HR1 hca hcb
    go_wp2_with fail
    refine (compare_any _ _ _ _ _ _ _ _ _ (be_length _ _) (be_length _ _) HA.out HB.out).mono ?_
    rintro e w3 ⟨rfl, rfl⟩
    rw [HC.out]
    go_wp2_with fail
    refine (works_any _).mono ?_
    rintro e w4 ⟨rfl, hb4⟩
    have hb04 := hb02.trans (hb4.mono hb02.size)
    clear hb4 hb02
    go_wp2_with fail
    go_ret
    exact ⟨rfl, hb04⟩
end Go.Proofs.Ytaghbkmommdmgaa
