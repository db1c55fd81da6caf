/-
  The reference's Put: it returns what the program's Put returns.
-/
import Derived.Test.YtaghbkmommdmgaaBigRef
import Derived.Laws.MakeOwn
namespace Go.Proofs.Ytaghbkmommdmgaa
open Go.RowKit

theorem and255 (r : Int) : bits .and .i64 r 255 = r % 256 := by
  have t1 := BitVec.toNat_ofInt (n := 64) (i := r)
  have e : (BitVec.ofInt 64 r &&& BitVec.ofInt 64 255).toNat = (BitVec.ofInt 64 r).toNat % 256 := by
    rw [BitVec.toNat_and, show (BitVec.ofInt 64 255).toNat = 2 ^ 8 - 1 from rfl, Nat.and_two_pow_sub_one_eq_mod]
  show IntKind.i64.wrap ((BitVec.ofInt 64 r &&& BitVec.ofInt 64 255).toNat : Int) = _
  rw [e, IntKind.wrap_i64]
  omega
def rsh (x : Int) (j : Nat) : Int := x / 2 ^ (8 * j)
theorem rsh_succ (x : Int) (j : Nat) : rsh x j / 256 = rsh x (j + 1) := by
  unfold rsh
  have hp : (0 : Int) < 2 ^ (8 * j) := Int.pow_pos (by decide)
  rw [Int.ediv_ediv, if_neg (by omega), show 8 * (j + 1) = 8 * j + 8 by omega, Int.pow_add, Int.sub_zero]; rfl
theorem rsh_byte (x : Int) (j : Nat) : rsh x j % 256 = byteZ x j := by
  unfold rsh byteZ; rw [show (8 * (j : Int)).toNat = 8 * j by omega]
theorem rsh_bd (x : Int) (j : Nat) (h : -9223372036854775808 ≤ x ∧ x ≤ 9223372036854775807) : -9223372036854775808 ≤ rsh x j ∧ rsh x j ≤ 9223372036854775807 := by
  unfold rsh
  have hp : (1 : Int) ≤ 2 ^ (8 * j) := Int.pow_pos (by decide)
  generalize (2 : Int) ^ (8 * j) = P at *
  constructor
  · rw [Int.le_ediv_iff_mul_le (by omega)]
    have : (-9223372036854775808 : Int) * P ≤ -9223372036854775808 * 1 := Int.mul_le_mul_of_nonpos_left (by omega) hp
    omega
  · have h1 : x / P ≤ 9223372036854775807 / P := Int.ediv_le_ediv (by omega) h.2
    have h2 : (9223372036854775807 : Int) / P ≤ 9223372036854775807 := Int.ediv_le_self _ (by decide)
    omega
def outL (N : Nat) (x : Int) (j : Nat) : List Int := (List.range N).map fun t => if N - j ≤ t then byteZ x ((N : Int) - 1 - (t : Int)) else 0
theorem outL_zero (N : Nat) (x : Int) : outL N x 0 = List.replicate N 0 := by
  apply List.ext_getElem (by simp [outL])
  intro i h1 h2
  simp [outL] at h1 ⊢
  omega
theorem outL_full (N : Nat) (x : Int) : outL N x N = be N x := by simp [outL, be]
theorem outL_set (N : Nat) (x : Int) (j : Nat) (h : j < N) : (outL N x j).set (N - 1 - j) (byteZ x j) = outL N x (j + 1) := by
  apply List.ext_getElem (by simp [outL])
  intro i h1 h2
  simp [outL] at h1 h2
  rw [List.getElem_set]
  by_cases hi : N - 1 - j = i
  · rw [if_pos hi]
    simp only [outL, List.getElem_map, List.getElem_range]
    rw [if_pos (by omega), show ((N : Int) - 1 - (i : Int)) = (j : Int) by omega]
  · rw [if_neg hi]
    simp only [outL, List.getElem_map, List.getElem_range]
    by_cases h3 : N - j ≤ i
    · rw [if_pos h3, if_pos (by omega)]
    · rw [if_neg h3, if_neg (by omega)]
theorem outL_len (N : Nat) (x : Int) (j : Nat) : (outL N x j).length = N := by simp [outL]
theorem be_head (N : Nat) (x : Int) (h : 0 < N) : (bys (be N x))[0]? = some (.int .u8 (byteZ x ((N : Int) - 1))) := by
  simp [bys, be, List.getElem?_range h]
theorem bys_set (l : List Int) (i : Nat) (y : Int) : (bys l).toArray.setIfInBounds i (.int .u8 y) = (bys (l.set i y)).toArray := by
  simp [bys, List.map_set]
/-- the sign that the reference looks at, and the one that the program looks at -/
theorem fits_ref {n x : Int} (hs : isSize n = true) (h8 : n < 8) : fits n x = if 128 ≤ byteZ x (n - 1) then rsh x n.toNat == -1 else rsh x n.toNat == 0 := by
  rcases isSize_iff.1 hs with rfl | rfl | rfl
  · have e1 : sgnOf 1 x = x / 128 := rfl
    have e2 : rsh x (Int.toNat 1) = x / 256 := rfl
    rw [show (1 : Int) - 1 = 0 from rfl, bz0, e2, Bool.eq_iff_iff]
    split <;> simp [fits, e1] <;> omega
  · have e1 : sgnOf 4 x = x / 2147483648 := rfl
    have e2 : rsh x (Int.toNat 4) = x / 4294967296 := rfl
    rw [show (4 : Int) - 1 = 3 from rfl, bz3, e2, Bool.eq_iff_iff]
    split <;> simp [fits, e1] <;> omega
  · omega
theorem Blk.set_ {w : World} {g : Nat} {t : TypeId} {cs : Array Value} (h : Blk w g t cs) (i : Nat) (u : Value) : Blk (w.setCell ⟨g, i, none⟩ u) g t (cs.setIfInBounds i u) := by
  unfold Blk at h ⊢
  simp [World.setCell, Array.getElem?_modify, h]

set_option maxRecDepth 100000 in
set_option maxHeartbeats 1000000 in
theorem rput_any (A : Option Addr) (m c : Nat) (xs : List Int) (n x : Int) (w : World) (h : Rd w A m xs) (hl : m ≤ 1048576) (hx : -9223372036854775808 ≤ x ∧ x ≤ 9223372036854775807) :
    Calls Try.prog 11 #[.slice A m c, .int .i64 n, .int .i64 x] w (RetOwnE w (putR xs n x)) := by
  have HLen := Lib.hid h.len
  have H := Lib.hid h
  clear h
  cases hs : isSize n
  · have HR := Lib.hid (show putR xs n x = ([], 2) by simp [putR, hs])
    go_enter Try.func11, Try.ntmps11
    go_wp2_with (go_at_call 20; refine (rsize_any _ _).mono ?_; rintro e w' ⟨rfl, rfl⟩)
    go_ret2
    rw [HR.out]
    exact ⟨_, rfl, World.ownsRow_nil _ _ _ _, Below.refl _ _⟩
  have hn1 : 1 ≤ n ∧ n ≤ 8 := by rcases isSize_iff.1 hs with h | h | h <;> omega
  obtain ⟨N, rfl⟩ : ∃ N : Nat, n = (N : Int) := ⟨n.toNat, by omega⟩
  obtain ⟨i0, hi, hz0, hz1, hz2⟩ := info_parts Try.info_u8
  have hmk : ∀ W : World, (Instr.makeSlice 22 (.int .i64 (N : Int)) (.int .i64 (N : Int))).run Try.prog W = .ok (.slice (some ⟨W.heap.size, 0, none⟩) N N) (W.alloc (.cells (bys (outL N x 0)).toArray 5)) := by
    intro W
    have hr := run_make (P := Try.prog) W 22 5 i0 (.int .u8 0) Try.underlying22 hi hz0 .i64 .i64 N N (by omega) (by omega) (by rw [hz2]; omega) (by omega)
    rw [hr, outL_zero, hz1]
    simp only [Int.toNat_natCast, Nat.mul_one]
    congr 2
    congr 1
    apply Array.ext
    · simp [madeCells, bys, Value.cells]
    · intro i h1 h2
      simp [madeCells, bys, Value.cells, Nat.mod_one]
  go_enter Try.func11, Try.ntmps11
  go_wp2_with (go_at_call 20; refine (rsize_any _ _).mono ?_; rintro e w' ⟨rfl, rfl⟩)
  go_loopw [8, 10] (fun r i wr => ∃ j : Nat, j ≤ N ∧ r = .int .i64 (rsh x j) ∧ i = .int .i64 ((N : Int) - 1 - (j : Int)) ∧ Blk wr w.heap.size 5 (bys (outL N x j)).toArray ∧ Below w.heap.size w wr) (fun _ i _ => (intOf i + 1).toNat)
  case atStart => exact ⟨0, Nat.zero_le _, by simp [rsh], by simp, Blk.new _ _ _, (Below.refl _ w).alloc (Nat.le_refl _) _⟩
  case round =>
    obtain ⟨j, hj, rfl, rfl, hB, hb⟩ := hrel
    have hbd := rsh_bd x j hx
    by_cases hlt : j < N
    · have HB1 := Lib.hid (Blk.set_ hB (N - 1 - j) (.int .u8 (byteZ x j)))
      have hcell : ∃ u, wr.cell? ⟨w.heap.size, N - 1 - j, none⟩ = some u := by
        rw [hB.cell]
        exact ⟨_, Array.getElem?_eq_getElem (by simp [bys, outL]; omega)⟩
      obtain ⟨u, hcell⟩ := hcell
      have hfz := hB.frozen (N - 1 - j)
      have ha := and255 (rsh x j)
      have hw8 : IntKind.u8.wrap (rsh x j % 256) = byteZ x j := by rw [IntKind.wrap_u8, ← rsh_byte]; omega
      have hs8 := rsh_succ x j
      have hge : (0 ≤ (N : Int) - 1 - (j : Int)) := by omega
      clear hB
      go_wp2_with fail
      refine ⟨⟨j + 1, by omega, rfl, by congr 1; omega, ?_, hb.setCell (Nat.le_refl _) _⟩, by simp [intOf]; omega⟩
      have := HB1.out
      rwa [bys_set, outL_set N x j hlt] at this
    · obtain rfl : j = N := by omega
      rw [outL_full] at hB
      have hN : ((j : Int) - 1 - (j : Int)) < 0 := by omega
      have hc0 : wr.cell? ⟨w.heap.size, 0, none⟩ = some (.int .u8 (byteZ x ((j : Int) - 1))) := by
        rw [hB.cell]
        simpa using be_head j x (by omega)
      have hb0 := byteZ_bd x ((j : Int) - 1)
      have HB := Lib.hid hB
      have hg := hB.lt
      have hrd : Rd wr (some ⟨w.heap.size, 0, none⟩) j (be j x) := by
        have := rd_block hB
        rwa [be_length] at this
      have HRD := Lib.hid hrd
      have HRx := Lib.hid (show Rd wr A m xs from Rd.below H.out hb)
      have HFR := Lib.hid (fun h8 : (j : Int) < 8 => fits_ref (x := x) hs h8)
      clear hB hrd
      cases hf : fits (j : Int) x
      · have h8 : (j : Int) < 8 := by
          rcases isSize_iff.1 hs with h | h | h
          · omega
          · omega
          · exfalso; rw [h, fits8 hx] at hf; cases hf
        have hfr := HFR.out h8
        rw [hf, Int.toNat_natCast] at hfr
        have HR := Lib.hid (show putR xs j x = ([], 3) by simp [putR, hs, hf])
        clear hf HFR
        by_cases hneg : 128 ≤ byteZ x ((j : Int) - 1)
        · rw [if_pos hneg] at hfr
          have hr1 : (rsh x j != -1) = true := by simp only [bne]; rw [← hfr]; rfl
          clear hfr
          go_wp2_with fail
          go_ret2
          rw [HR.out]
          exact ⟨_, rfl, World.ownsRow_nil _ _ _ _, hb⟩
        · rw [if_neg hneg] at hfr
          have hr1 : (rsh x j != 0) = true := by simp only [bne]; rw [← hfr]; rfl
          clear hfr
          go_wp2_with fail
          go_ret2
          rw [HR.out]
          exact ⟨_, rfl, World.ownsRow_nil _ _ _ _, hb⟩
      · have HR := Lib.hid (show putR xs j x = (xs ++ be j x, 0) by simp [putR, hs, hf])
        by_cases h8 : (j : Int) < 8
        · have hfr := HFR.out h8
          rw [hf, Int.toNat_natCast] at hfr
          clear hf HFR
          by_cases hneg : 128 ≤ byteZ x ((j : Int) - 1)
          · rw [if_pos hneg] at hfr
            have hr1 : (rsh x j != -1) = false := by simp only [bne]; rw [← hfr]; rfl
            clear hfr
            go_wp2_with (first
                | (at_builtin; refine wpList_append_any _ rfl (.tmp 53) (.tmp 54) 22 rfl w.heap.size 5 i0 _ 1 1 Try.underlying22 hi hz0 hz1 hz2 rfl (by decide) (.slice (some ⟨wr.heap.size, 0, none⟩) 0 0) 0 [] rfl (World.ownsRow_made wr #[] 0 hb.size (Nat.zero_le _) rfl) wr.heap.size A m c (bys xs) rfl (Reads.alloc HRx.out (Nat.le_refl _) _) (bys_one _) (by unfold maxLen; omega) (by omega) (by have := hb.size; simp; omega) ?_; intro v1 w1 hown1 hgrow1 hat1; have hb1 : Below wr.heap.size wr w1 := ((Below.refl _ wr).alloc (Nat.le_refl _) _).grown hgrow1 (by simp) (by intro k hk; simp [Value.ownBlock] at hk; omega); have HRD1 := Lib.hid (Rd.below HRD.out hb1); clear HRD)
                | (at_builtin; refine wpList_append_any _ rfl (.tmp 55) (.tmp 56) 22 rfl w.heap.size 5 i0 _ 1 1 Try.underlying22 hi hz0 hz1 hz2 rfl (by decide) v1 (0 + m) ([] ++ bys xs) rfl hown1 w1.heap.size _ _ _ _ rfl HRD1.out (bys_one _) (by unfold maxLen; omega) (by omega) (by have := hb1.size; have := hb.size; omega) ?_; intro v2 w2 hown2 hgrow2 hat2))
            go_ret2
            rw [HR.out]
            refine ⟨v2, rfl, ?_, (hb.trans (hb1.mono hb.size)).grown hgrow2 (Nat.le_trans hb.size hb1.size) (own_base hown1)⟩
            simp only [List.length_append, be_length, HLen.out, bys_append]
            simpa using hown2
          · rw [if_neg hneg] at hfr
            have hr1 : (rsh x j != 0) = false := by simp only [bne]; rw [← hfr]; rfl
            clear hfr
            go_wp2_with (first
                | (at_builtin; refine wpList_append_any _ rfl (.tmp 53) (.tmp 54) 22 rfl w.heap.size 5 i0 _ 1 1 Try.underlying22 hi hz0 hz1 hz2 rfl (by decide) (.slice (some ⟨wr.heap.size, 0, none⟩) 0 0) 0 [] rfl (World.ownsRow_made wr #[] 0 hb.size (Nat.zero_le _) rfl) wr.heap.size A m c (bys xs) rfl (Reads.alloc HRx.out (Nat.le_refl _) _) (bys_one _) (by unfold maxLen; omega) (by omega) (by have := hb.size; simp; omega) ?_; intro v1 w1 hown1 hgrow1 hat1; have hb1 : Below wr.heap.size wr w1 := ((Below.refl _ wr).alloc (Nat.le_refl _) _).grown hgrow1 (by simp) (by intro k hk; simp [Value.ownBlock] at hk; omega); have HRD1 := Lib.hid (Rd.below HRD.out hb1); clear HRD)
                | (at_builtin; refine wpList_append_any _ rfl (.tmp 55) (.tmp 56) 22 rfl w.heap.size 5 i0 _ 1 1 Try.underlying22 hi hz0 hz1 hz2 rfl (by decide) v1 (0 + m) ([] ++ bys xs) rfl hown1 w1.heap.size _ _ _ _ rfl HRD1.out (bys_one _) (by unfold maxLen; omega) (by omega) (by have := hb1.size; have := hb.size; omega) ?_; intro v2 w2 hown2 hgrow2 hat2))
            go_ret2
            rw [HR.out]
            refine ⟨v2, rfl, ?_, (hb.trans (hb1.mono hb.size)).grown hgrow2 (Nat.le_trans hb.size hb1.size) (own_base hown1)⟩
            simp only [List.length_append, be_length, HLen.out, bys_append]
            simpa using hown2
        · clear hf HFR
          by_cases hneg : 128 ≤ byteZ x ((j : Int) - 1)
          all_goals
            go_wp2_with (first
                | (at_builtin; refine wpList_append_any _ rfl (.tmp 53) (.tmp 54) 22 rfl w.heap.size 5 i0 _ 1 1 Try.underlying22 hi hz0 hz1 hz2 rfl (by decide) (.slice (some ⟨wr.heap.size, 0, none⟩) 0 0) 0 [] rfl (World.ownsRow_made wr #[] 0 hb.size (Nat.zero_le _) rfl) wr.heap.size A m c (bys xs) rfl (Reads.alloc HRx.out (Nat.le_refl _) _) (bys_one _) (by unfold maxLen; omega) (by omega) (by have := hb.size; simp; omega) ?_; intro v1 w1 hown1 hgrow1 hat1; have hb1 : Below wr.heap.size wr w1 := ((Below.refl _ wr).alloc (Nat.le_refl _) _).grown hgrow1 (by simp) (by intro k hk; simp [Value.ownBlock] at hk; omega); have HRD1 := Lib.hid (Rd.below HRD.out hb1); clear HRD)
                | (at_builtin; refine wpList_append_any _ rfl (.tmp 55) (.tmp 56) 22 rfl w.heap.size 5 i0 _ 1 1 Try.underlying22 hi hz0 hz1 hz2 rfl (by decide) v1 (0 + m) ([] ++ bys xs) rfl hown1 w1.heap.size _ _ _ _ rfl HRD1.out (bys_one _) (by unfold maxLen; omega) (by omega) (by have := hb1.size; have := hb.size; omega) ?_; intro v2 w2 hown2 hgrow2 hat2))
            go_ret2
            rw [HR.out]
            refine ⟨v2, rfl, ?_, (hb.trans (hb1.mono hb.size)).grown hgrow2 (Nat.le_trans hb.size hb1.size) (own_base hown1)⟩
            simp only [List.length_append, be_length, HLen.out, bys_append]
            simpa using hown2
end Go.Proofs.Ytaghbkmommdmgaa
