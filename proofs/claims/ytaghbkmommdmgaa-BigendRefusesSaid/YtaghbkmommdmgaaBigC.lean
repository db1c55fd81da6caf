/-
  bigend.Put: what the call returns.
-/
import Derived.Test.YtaghbkmommdmgaaBigB
namespace Go.Proofs.Ytaghbkmommdmgaa
open Go.RowKit

set_option maxHeartbeats 400000 in
theorem put_any (A : Option Addr) (m c : Nat) (xs : List Int) (n x : Int) (w : World) (h : Rd w A m xs) (hl : m ≤ 1048576) :
    Calls Try.prog 10 #[.slice A m c, .int .i64 n, .int .i64 x] w (RetOwnE w (putR xs n x)) := by
  have hlen := h.len
  have HLen := Lib.hid hlen
  clear hlen
  have H := Lib.hid h
  clear h
  cases hs : isSize n
  · have HR := Lib.hid (show putR xs n x = ([], 2) by simp [putR, hs])
    go_enter Try.func10, Try.ntmps10
    go_wp2_with (go_at_call 19; refine (size_any _ _).mono ?_; rintro e w' ⟨rfl, rfl⟩)
    go_ret2
    rw [HR.out]
    exact ⟨_, rfl, World.ownsRow_nil _ _ _ _, Below.refl _ _⟩
  have hn1 : 1 ≤ n ∧ n ≤ 8 := by rcases isSize_iff.1 hs with h | h | h <;> omega
  obtain ⟨s, hsg⟩ : ∃ s, x / 2 ^ ((8 * n).toNat - 1) = s := ⟨_, rfl⟩
  have HS := Lib.hid (show sgnOf n x = s by rw [sgnOf, show (8 * n - 1).toNat = (8 * n).toNat - 1 by omega]; exact hsg)
  cases hf : fits n x
  · have HR := Lib.hid (show putR xs n x = ([], 3) by simp [putR, hs, hf])
    have hs0 : (s != 0) = true := by simp [fits, HS.out] at hf; simpa using hf.1
    have hs1 : (s != -1) = true := by simp [fits, HS.out] at hf; simpa using hf.2
    clear hf
    go_enter Try.func10, Try.ntmps10
    go_wp2_with (go_at_call 19; refine (size_any _ _).mono ?_; rintro e w' ⟨rfl, rfl⟩)
    go_ret2
    rw [HR.out]
    exact ⟨_, rfl, World.ownsRow_nil _ _ _ _, Below.refl _ _⟩
  have HR := Lib.hid (show putR xs n x = (xs ++ be n.toNat x, 0) by simp [putR, hs, hf])
  have hs01 : s = 0 ∨ s = -1 := by simpa [fits, HS.out] using hf
  clear hf
  obtain ⟨i0, hi, hz0, hz1, hz2⟩ := info_parts Try.info_u8
  have hn := Lib.hid (show n = (n.toNat : Int) by omega)
  rcases hs01 with rfl | rfl
  all_goals
    go_enter Try.func10, Try.ntmps10
    go_wp2_with (first | (go_at_call 19; refine (size_any _ _).mono ?_; rintro e w' ⟨rfl, rfl⟩) | (go_at_call 9; refine (clone_any _ _ _ _ _ H.out (by omega)).mono ?_; rintro e w' ⟨v, rfl, hown, hb⟩))
    go_loopw [9, 28] (fun v i wr => ∃ k : Nat, (k : Int) ≤ n ∧ i = .int .i64 k ∧ wr.ownsRow w.heap.size 5 1 v (m + k) (bys (xs ++ (be n.toNat x).take k)) ∧ Below w.heap.size w wr) (fun _ i _ => (n - intOf i).toNat)
    case atStart => exact ⟨0, by omega, rfl, by simpa using hown, hb⟩
    case round =>
      clear hown hb
      obtain ⟨k, hk, rfl, hown, hb⟩ := hrel
      by_cases hlt : (k : Int) < n
      · go_wp2_with (at_builtin; refine wpList_append_own _ rfl (.tmp 31) (.tmp 40) 22 rfl w.heap.size 5 i0 (.int .u8 0) 1 1 Try.underlying22 hi hz0 hz1 hz2 rfl (by decide) _ _ _ rfl (hown.alloc _) ⟨wr.heap.size, 0, none⟩ 1 1 [.int .u8 (byteZ x (n - 1 - k))] ?c0 rfl ?c1 ?c2 ?c3 ?c4 ?c5 ?_)
        case c0 => rfl
        case c1 => exact cell_one_new _ _ _
        case c2 => intro u hu; simp at hu; subst hu; rfl
        case c3 => unfold maxLen; omega
        case c4 => omega
        case c5 => have := hb.size; simp; omega
        intro v' w1 hown' hgrow _
        have hb1 := below_push hb hb.size hown hgrow
        have HO := Lib.hid (show w1.ownsRow w.heap.size 5 1 v' (m + (k + 1)) (bys (xs ++ (be n.toNat x).take (k + 1))) by
          rw [be_snoc _ _ _ (by omega), ← hn.out, ← List.append_assoc, bys_append]; exact hown')
        clear hown' hgrow hown hb
        go_wp2
        go_roundw
        case rel => exact ⟨k + 1, by omega, by go_num, HO.out, hb1⟩
        case measure => simp [intOf]; omega
      · go_wp2
        go_ret2
        have hkn : k = n.toNat := by omega
        subst hkn
        rw [HR.out]
        rw [List.take_of_length_le (by simp [be])] at hown
        exact ⟨_, rfl, by simpa [HLen.out, be] using hown, hb⟩
end Go.Proofs.Ytaghbkmommdmgaa
