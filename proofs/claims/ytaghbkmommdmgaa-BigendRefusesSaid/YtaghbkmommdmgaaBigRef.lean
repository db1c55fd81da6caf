/-
  The references of layer 41: size, Bytes, Get: they return what the program's functions return.
-/
import Derived.Test.YtaghbkmommdmgaaBigRow
namespace Go.Proofs.Ytaghbkmommdmgaa
open Go.RowKit

set_option maxHeartbeats 400000 in
theorem rsize_any (n : Int) (w : World) : Calls Try.prog 20 #[.int .i64 n] w fun e w' => e = .returned (.bool (isSize n)) ∧ w = w' := by
  by_cases h1 : n = 1
  · subst h1
    go_enter Try.func20, Try.ntmps20
    go_wp2
    go_ret
    exact ⟨rfl, rfl⟩
  by_cases h4 : n = 4
  · subst h4
    go_enter Try.func20, Try.ntmps20
    go_wp2
    go_ret
    exact ⟨rfl, rfl⟩
  by_cases h8 : n = 8
  · subst h8
    go_enter Try.func20, Try.ntmps20
    go_wp2
    go_ret
    exact ⟨rfl, rfl⟩
  have e1 : (n == 1) = false := beq_eq_false_iff_ne.2 h1
  have e4 : (n == 4) = false := beq_eq_false_iff_ne.2 h4
  have e8 : (n == 8) = false := beq_eq_false_iff_ne.2 h8
  have HS := Lib.hid (show isSize n = false by simp [isSize, e1, e4, e8])
  clear h1 h4 h8
  go_enter Try.func20, Try.ntmps20
  go_wp2
  go_ret
  exact ⟨by rw [HS.out]; rfl, rfl⟩

set_option maxHeartbeats 400000 in
theorem rbytes_any (A : Option Addr) (m c : Nat) (xs : List Int) (a n : Int) (w : World) (h : Rd w A m xs) (hl : m ≤ 140737488355328) (hc : m ≤ c) :
    Calls Try.prog 15 #[.slice A m c, .int .i64 a, .int .i64 n] w (RetOwnE w (bytesR xs a n)) := by
  obtain rfl := h.len
  have H := Lib.hid h
  clear h
  by_cases h1 : n < 0
  · have HR := Lib.hid (show bytesR xs a n = ([], 2) by simp [bytesR, h1])
    go_enter Try.func15, Try.ntmps15
    go_wp2
    go_ret2
    rw [HR.out]
    exact ⟨_, rfl, World.ownsRow_nil _ _ _ _, Below.refl _ _⟩
  by_cases h2 : a < 0
  · have HR := Lib.hid (show bytesR xs a n = ([], 19) by simp [bytesR, h1, h2])
    go_enter Try.func15, Try.ntmps15
    go_wp2
    go_ret2
    rw [HR.out]
    exact ⟨_, rfl, World.ownsRow_nil _ _ _ _, Below.refl _ _⟩
  by_cases h3 : (xs.length : Int) < a
  · have HR := Lib.hid (show bytesR xs a n = ([], 19) by simp [bytesR, h1, h3])
    go_enter Try.func15, Try.ntmps15
    go_wp2
    go_ret2
    rw [HR.out]
    exact ⟨_, rfl, World.ownsRow_nil _ _ _ _, Below.refl _ _⟩
  by_cases h4 : (xs.length : Int) - a < n
  · have HR := Lib.hid (show bytesR xs a n = ([], 19) by simp [bytesR, h1, h4])
    go_enter Try.func15, Try.ntmps15
    go_wp2
    go_ret2
    rw [HR.out]
    exact ⟨_, rfl, World.ownsRow_nil _ _ _ _, Below.refl _ _⟩
  have HR := Lib.hid (show bytesR xs a n = ((xs.drop a.toNat).take n.toNat, 0) by simp [bytesR, h1, h2, h3, h4])
  have hq : Rd w (if c = a.toNat then A else A.map (·.add a.toNat)) n.toNat ((xs.drop a.toNat).take n.toNat) := by
    have h1 := (Reads.cut H.out (k := a.toNat) (cap := c) (by omega) hc).take (k := n.toNat) (by omega)
    simpa [Rd, bys_drop, bys_take] using h1
  have hlq := hq.len
  have HQ := Lib.hid hq
  have HLQ := Lib.hid hlq
  have e1 : (a + n).toNat - a.toNat = n.toNat := by omega
  clear hq hlq
  obtain ⟨i0, hi, hz0, hz1, hz2⟩ := info_parts Try.info_u8
  by_cases hca : c = a.toNat
  all_goals
    first | (simp only [if_pos hca] at HQ) | (simp only [if_neg hca] at HQ)
    go_enter Try.func15, Try.ntmps15
    go_wp2_with (at_builtin; refine wpList_append_any _ rfl (.tmp 26) (.tmp 32) 22 rfl w.heap.size 5 i0 _ 1 1 Try.underlying22 hi hz0 hz1 hz2 rfl (by decide) (.slice (some ⟨w.heap.size, 0, none⟩) 0 0) 0 [] rfl (World.ownsRow_made w #[] 0 (Nat.le_refl _) (Nat.zero_le _) rfl) w.heap.size _ _ _ _ rfl (Reads.alloc HQ.out (Nat.le_refl _) _) (bys_one _) (by unfold maxLen; omega) (by omega) (by simp) ?_; intro v' w1 hown hgrow _)
    go_wp2
    go_ret2
    rw [HR.out]
    refine ⟨v', rfl, ?_, ((Below.refl _ w).alloc (Nat.le_refl _) _).grown hgrow (by simp) (by intro k hk; simp [Value.ownBlock] at hk; first | omega | (subst hk; exact Nat.le_refl _))⟩
    rw [HLQ.out]
    simpa using hown

set_option maxHeartbeats 400000 in
theorem rget_any (A : Option Addr) (m c : Nat) (xs : List Int) (a n : Int) (w : World) (h : Rd w A m xs) (hl : m ≤ 140737488355328) (hc : m ≤ c) (hx : ∀ x ∈ xs, 0 ≤ x ∧ x < 256) :
    Calls Try.prog 13 #[.slice A m c, .int .i64 a, .int .i64 n] w (RetNumE w (getR xs a n)) := by
  have H := Lib.hid h
  clear h
  cases hs : isSize n
  · have HR := Lib.hid (show getR xs a n = (0, 2) by simp [getR, hs])
    go_enter Try.func13, Try.ntmps13
    go_wp2_with (go_at_call 20; refine (rsize_any _ _).mono ?_; rintro e w' ⟨rfl, rfl⟩)
    go_ret2
    rw [HR.out]
    exact ⟨rfl, Below.refl _ _⟩
  have hB := Lib.hid (rbytes_any A m c xs a n w H.out hl hc)
  have HR := Lib.hid (show getR xs a n = if (bytesR xs a n).2 ≠ 0 then (0, (bytesR xs a n).2) else (numOf (bytesR xs a n).1, 0) by simp [getR, hs])
  have HX := Lib.hid (show ∀ x ∈ (bytesR xs a n).1, 0 ≤ x ∧ x < 256 by
    unfold bytesR; split
    · simp
    · split
      · simp
      · exact fun x hx' => hx x (List.mem_of_mem_drop (List.mem_of_mem_take hx')))
  have HL := Lib.hid (show (bytesR xs a n).2 = 0 → ((bytesR xs a n).1.length : Int) = n by
    unfold bytesR; split
    · simp
    · split
      · simp
      · rename_i h2; intro _; simp only [List.length_take, List.length_drop]; omega)
  generalize bytesR xs a n = r at *
  obtain ⟨l, er⟩ := r
  clear hx
  by_cases he : er = 0
  · subst he
    simp only [ne_eq, not_true_eq_false, if_false] at HR HL
    have hn1 : 1 ≤ n ∧ n ≤ 8 := by rcases isSize_iff.1 hs with h | h | h <;> omega
    have hln : (l.length : Int) = n := HL.out trivial
    match l, hln, hB, HR, HX with
    | [], hln, _, _, _ => simp at hln; omega
    | c0 :: cs, hln, hB, HR, HX =>
    have hcl : (cs.length : Int) + 1 = n := by simpa using hln
    have hc0 := HX.out c0 (by simp)
    clear HL hln
    obtain ⟨s0, hs0⟩ : ∃ s0, s0 = sgn8 c0 := ⟨_, rfl⟩
    have HS0 := Lib.hid hs0
    have hsb := sgn8_bd hc0
    rw [← hs0] at hsb
    by_cases hneg : 128 ≤ c0
    all_goals
      first | (rw [sgn8, if_pos hneg] at hs0; subst s0) | (rw [sgn8, if_neg hneg] at hs0; subst s0)
      go_enter Try.func13, Try.ntmps13
      go_wp2_with (first | (go_at_call 20; refine (rsize_any _ _).mono ?_; rintro e w' ⟨rfl, rfl⟩) | (go_at_call 15; refine hB.out.mono ?_; rintro e w' ⟨v, rfl, hown, hb⟩; obtain ⟨g, cap, rfl, hcap, hg, hg', hcs⟩ := own_at hown (by simp); have h00 : w'.cell? ⟨g, 0, none⟩ = some (.int .u8 c0) := by simpa using hcs 0 (by simp)))
      go_loop [10, 11] (fun x i => ∃ k : Nat, k ≤ cs.length ∧ i = .int .i64 ((k : Int) + 1) ∧ x = .int .i64 (foldB (sgn8 c0) (cs.take k))) (fun _ i => cs.length + 1 - (intOf i).toNat)
      case atStart => exact ⟨0, Nat.zero_le _, rfl, by rw [← HS0.out]; rfl⟩
      case round =>
        obtain ⟨k, hk, rfl, rfl⟩ := hrel
        by_cases hlt : k < cs.length
        · have hck := hcs (k + 1) (by simp; omega)
          have hmem : cs.getD k 0 ∈ cs := by simp [List.getD, List.getElem?_eq_getElem hlt]
          have hcb := HX.out _ (List.mem_cons_of_mem c0 hmem)
          have hfb := foldB_bd6 (sgn8 c0) (sgn8_bd hc0) (cs.take k) (fun c hc => HX.out c (List.mem_cons_of_mem _ (List.mem_of_mem_take hc))) (by simp; omega)
          have HS := Lib.hid (show foldB (sgn8 c0) (cs.take (k + 1)) = foldB (sgn8 c0) (cs.take k) * 256 + cs.getD k 0 by rw [take_snoc_getD cs k hlt, foldB_snoc])
          rw [List.getD_cons_succ] at hck
          generalize foldB (sgn8 c0) (cs.take k) = F at *
          generalize cs.getD k 0 = ck at *
          clear hcs hmem
          go_wp2
          go_round
          case rel => exact ⟨k + 1, by omega, by go_num, by rw [HS.out]⟩
          case measure => simp [intOf]; omega
        · go_wp2
          go_ret2
          rw [HR.out, numOf]
          refine ⟨?_, hb⟩
          rw [List.take_of_length_le (by omega)]
          rfl
  · have he' : (er != 0) = true := by simp [he]
    go_enter Try.func13, Try.ntmps13
    go_wp2_with (first | (go_at_call 20; refine (rsize_any _ _).mono ?_; rintro e w' ⟨rfl, rfl⟩) | (go_at_call 15; refine hB.out.mono ?_; rintro e w' ⟨v, rfl, hown, hb⟩))
    go_ret2
    rw [HR.out, if_pos he]
    exact ⟨rfl, hb⟩
end Go.Proofs.Ytaghbkmommdmgaa
