/-
  The walk of analemmalaw41.BigendRefuses.
-/
import Derived.Test.YtaghbkmommdmgaaLawNumbers
namespace Go.Proofs.Ytaghbkmommdmgaa
open Go.RowKit

def badSizes (f : Int) : Array Value := #[.int .i64 0, .int .i64 2, .int .i64 3, .int .i64 5, .int .i64 6, .int .i64 7, .int .i64 (9 + f), .int .i64 (-1 - f), .int .i64 9223372036854775807, .int .i64 (-9223372036854775808)]
theorem badSizes_row {w : World} {B : Nat} {t : TypeId} {f : Int} (hf : 0 ≤ f ∧ f ≤ 4294967295) (h : Blk w B t (badSizes f)) (k : Nat) (hk : k < 10) : ∃ s, w.cell? ⟨B, k, none⟩ = some (.int .i64 s) ∧ isSize s = false := by
  have : k = 0 ∨ k = 1 ∨ k = 2 ∨ k = 3 ∨ k = 4 ∨ k = 5 ∨ k = 6 ∨ k = 7 ∨ k = 8 ∨ k = 9 := by omega
  rcases this with rfl | rfl | rfl | rfl | rfl | rfl | rfl | rfl | rfl | rfl
  all_goals refine ⟨_, h.cell _, ?_⟩
  all_goals first | decide | (simp [isSize]; omega)
def badAts (l f : Int) : Array Value := #[.int .i64 (-1 - f), .int .i64 (l + 1 + f), .int .i64 9223372036854775807, .int .i64 (-9223372036854775808)]
theorem badAts_row {w : World} {B : Nat} {t : TypeId} {l f : Int} (hl : 0 ≤ l ∧ l ≤ 20) (hf : 0 ≤ f ∧ f ≤ 4294967295) (h : Blk w B t (badAts l f)) (k : Nat) (hk : k < 4) : ∃ s, w.cell? ⟨B, k, none⟩ = some (.int .i64 s) ∧ (s < 0 ∨ l < s) := by
  have : k = 0 ∨ k = 1 ∨ k = 2 ∨ k = 3 := by omega
  rcases this with rfl | rfl | rfl | rfl
  all_goals refine ⟨_, h.cell _, ?_⟩
  all_goals omega
theorem bytesR_far {l : List Int} {s n : Int} (hn : 0 ≤ n) (h : s < 0 ∨ (l.length : Int) < s) : bytesR l s n = ([], 19) := by
  rw [bytesR, if_neg (by omega), if_pos (by omega)]
theorem getR_far {l : List Int} {s : Int} (h : s < 0 ∨ (l.length : Int) < s) : getR l s 1 = (0, 19) := by
  rw [getR, if_neg (by decide), bytesR_far (by decide) h, if_pos (by decide)]

theorem own_below {w w' : World} {base e size n : Nat} {v : Value} {l : List Value} (h : w.ownsRow base e size v n l) (hb : Below w.heap.size w w') : w'.ownsRow base e size v n l :=
  h.kept (row := none) ⟨hb.os, hb.tape, hb.output, hb.size, fun i hi _ => hb.block i hi⟩ (by cases v.ownBlock <;> simp)
theorem bytesR_all (l : List Int) : bytesR l 0 l.length = (l, 0) := by
  rw [bytesR, if_neg (by omega), if_neg (by omega)]; simp
theorem bytesR_none (l : List Int) : bytesR l l.length 0 = ([], 0) := by
  rw [bytesR, if_neg (by omega), if_neg (by omega)]; simp
theorem bytesR_more {l : List Int} {n : Int} (h : (l.length : Int) < n) : bytesR l 0 n = ([], 19) := by
  rw [bytesR, if_neg (by omega), if_pos (by omega)]
theorem bytesR_less {l : List Int} {n : Int} (h : n < 0) : bytesR l 0 n = ([], 2) := by
  rw [bytesR, if_pos h]
theorem bys_set_list (l : List Int) (i : Nat) (y : Int) : (bys l).set i (.int .u8 y) = bys (l.set i y) := by simp [bys, List.map_set]

set_option maxRecDepth 100000 in
set_option maxHeartbeats 4000000 in
theorem refuses_walk (A : Option Addr) (m c : Nat) (xs : List Int) (f x : Int) (w : World) (hr : Rd w A m xs) (hc : m ≤ c) (hb8 : ∀ x ∈ xs, 0 ≤ x ∧ x < 256) (hf : 0 ≤ f ∧ f ≤ 4294967295) (hmm : m ≤ maxLen) :
    Calls Try.prog 6 #[.slice A m c, .int .u32 f, .int .i64 x] w fun e w' => e = .returned (.bool true) ∧ Below w.heap.size w w' := by
  unfold maxLen at hmm
  obtain ⟨L, hmin⟩ : ∃ L : Nat, min (m : Int) 20 = (L : Int) := ⟨(min (m : Int) 20).toNat, by omega⟩
  have hL : L ≤ 20 ∧ L ≤ m := by omega
  have HRd := Lib.hid (Rd.take hr hL.2)
  have HB8 := Lib.hid (show ∀ x ∈ xs.take L, 0 ≤ x ∧ x < 256 from fun x hx => hb8 x (List.mem_of_mem_take hx))
  clear hr hb8
  generalize xs.take L = ys at *
  have HLen := Lib.hid (Rd.len HRd.out)
  go_enter Try.func6, Try.ntmps6
  go_wp2_with fail
  go_loopw [45] (fun i wr => ∃ k : Nat, k ≤ 10 ∧ i = .int .i64 k ∧ Below w.heap.size w wr ∧ Blk wr w.heap.size 3 (badSizes f)) (fun i _ => 10 - (intOf i).toNat)
  case atStart => exact ⟨0, by omega, rfl, (Below.refl _ w).alloc (Nat.le_refl _) _, Blk.new' _ _ _ rfl⟩
  case round =>
    obtain ⟨k, hk, rfl, hb, hT⟩ := hrel
    by_cases hlt : k < 10
    · obtain ⟨s, h0, hs⟩ := badSizes_row hf hT k hlt
      have hd : decide ((k : Int) < 10) = true := by simp; omega
      have HP := Lib.hid (show putR ys s x = ([], 2) by rw [putR, if_pos hs])
      have HG := Lib.hid (show getR ys 0 s = (0, 2) by rw [getR, if_pos hs])
      have HT := Lib.hid hT
      clear hT hs
      go_wp2_with fail
      refine (put_any _ _ _ _ _ _ _ (Rd.below HRd.out hb) (by omega)).mono ?_
      intro e w2 hret
      obtain ⟨A2, c2, rfl, _, _, hb2⟩ := ret_open hret HP.out
      have hbw2 := hb.trans (hb2.mono hb.size)
      have HT2 := Lib.hid (Blk.below HT.out hb2 (Blk.lt HT.out))
      clear hret hb2 hb h0
      go_wp2_with fail
      refine (get_any _ _ _ _ _ _ _ (Rd.below HRd.out hbw2) (by omega) (by omega) HB8.out).mono ?_
      rintro e w3 ⟨rfl, hb3⟩
      rw [HG.out]
      have hbw3 := hbw2.trans (hb3.mono hbw2.size)
      have HT3 := Lib.hid (Blk.below HT2.out hb3 (Blk.lt HT2.out))
      clear hb3 hbw2
      go_wp2_with fail
      go_roundw
      case rel => exact ⟨k + 1, by omega, by go_num, hbw3, HT3.out⟩
      case measure => simp [intOf]; omega
    · have hd : decide ((k : Int) < 10) = false := by simp; omega
      clear hT
      obtain ⟨wo, rfl⟩ : ∃ wo : World, wo = wr := ⟨_, rfl⟩
      go_wp2_with fail
      go_loopw [87] (fun i wr => ∃ k : Nat, k ≤ 4 ∧ i = .int .i64 k ∧ Below w.heap.size w wr ∧ Blk wr wo.heap.size 3 (badAts L f)) (fun i _ => 4 - (intOf i).toNat)
      case atStart => exact ⟨0, by omega, rfl, hb.alloc hb.size _, Blk.new' _ _ _ rfl⟩
      case round =>
        clear hb
        obtain ⟨k2, hk2, rfl, hb, hT⟩ := hrel
        by_cases hlt2 : k2 < 4
        · obtain ⟨s, h0, hs⟩ := badAts_row (by omega) hf hT k2 hlt2
          have hd2 : decide ((k2 : Int) < 4) = true := by simp; omega
          have HG := Lib.hid (show getR ys s 1 = (0, 19) from getR_far (by rw [HLen.out]; exact hs))
          have HB := Lib.hid (show bytesR ys s 0 = ([], 19) from bytesR_far (by decide) (by rw [HLen.out]; exact hs))
          have HT := Lib.hid hT
          clear hT hs
          go_wp2_with fail
          refine (get_any _ _ _ _ _ _ _ (Rd.below HRd.out hb) (by omega) (by omega) HB8.out).mono ?_
          rintro e w3 ⟨rfl, hb3⟩
          rw [HG.out]
          have hbw3 := hb.trans (hb3.mono hb.size)
          have HT3 := Lib.hid (Blk.below HT.out hb3 (Blk.lt HT.out))
          clear hb3 hb h0
          go_wp2_with fail
          refine (bytes_any _ _ _ _ _ _ _ (Rd.below HRd.out hbw3) (by omega) (by omega)).mono ?_
          intro e w4 hret
          obtain ⟨A4, c4, rfl, _, _, hb4⟩ := ret_open hret HB.out
          have hbw4 := hbw3.trans (hb4.mono hbw3.size)
          have HT4 := Lib.hid (Blk.below HT3.out hb4 (Blk.lt HT3.out))
          clear hret hb4 hbw3
          go_wp2_with fail
          go_roundw
          case rel => exact ⟨k2 + 1, by omega, by go_num, hbw4, HT4.out⟩
          case measure => simp [intOf]; omega
        · have hd2 : decide ((k2 : Int) < 4) = false := by simp; omega
          clear hT
          obtain ⟨wp, rfl⟩ : ∃ wp : World, wp = wr := ⟨_, rfl⟩
          have H1 := Lib.hid (show bytesR ys 0 L = (ys, 0) by rw [← HLen.out]; exact bytesR_all ys)
          have H2 := Lib.hid (show bytesR ys L 0 = ([], 0) by rw [← HLen.out]; exact bytesR_none ys)
          have H3 := Lib.hid (show bytesR ys 0 (L + 1 + f) = ([], 19) from bytesR_more (by rw [HLen.out]; omega))
          have H4 := Lib.hid (show bytesR ys 0 9223372036854775807 = ([], 19) from bytesR_more (by rw [HLen.out]; omega))
          have H5 := Lib.hid (show bytesR ys 0 (-1 - f) = ([], 2) from bytesR_less (by omega))
          go_wp2_with fail
          refine (bytes_any _ _ _ _ _ _ _ (Rd.below HRd.out hb) (by omega) (by omega)).mono ?_
          rintro e w1 ⟨v, rfl, hown, hb1⟩
          rw [H1.out] at hown ⊢
          simp only [HLen.out] at hown
          obtain ⟨A1, c1, rfl, hc1, hr1⟩ := own_slice hown
          have HO1 := Lib.hid hown
          have HR1 := Lib.hid (show Rd w1 A1 L ys from hr1)
          have hbw1 := hb.trans (hb1.mono hb.size)
          have hpb := hb.size
          clear hown hr1 hb1 hb
          go_wp2_with fail
          refine (bytes_any _ _ _ _ _ _ _ (Rd.below HRd.out hbw1) (by omega) (by omega)).mono ?_
          intro e w2 hret
          obtain ⟨A2, c2, rfl, _, _, hb2⟩ := ret_open hret H2.out
          have hbw2 := hbw1.trans (hb2.mono hbw1.size)
          have HO2 := Lib.hid (own_below HO1.out hb2)
          have HR2 := Lib.hid (Rd.below HR1.out hb2)
          clear hret hb2 hbw1 HO1 HR1
          go_wp2_with fail
          refine (bytes_any _ _ _ _ _ _ _ (Rd.below HRd.out hbw2) (by omega) (by omega)).mono ?_
          intro e w3 hret
          obtain ⟨A3, c3, rfl, _, _, hb3⟩ := ret_open hret H3.out
          have hbw3 := hbw2.trans (hb3.mono hbw2.size)
          have HO3 := Lib.hid (own_below HO2.out hb3)
          have HR3 := Lib.hid (Rd.below HR2.out hb3)
          clear hret hb3 hbw2 HO2 HR2
          go_wp2_with fail
          refine (bytes_any _ _ _ _ _ _ _ (Rd.below HRd.out hbw3) (by omega) (by omega)).mono ?_
          intro e w4 hret
          obtain ⟨A4, c4, rfl, _, _, hb4⟩ := ret_open hret H4.out
          have hbw4 := hbw3.trans (hb4.mono hbw3.size)
          have HO4 := Lib.hid (own_below HO3.out hb4)
          have HR4 := Lib.hid (Rd.below HR3.out hb4)
          clear hret hb4 hbw3 HO3 HR3
          go_wp2_with fail
          refine (bytes_any _ _ _ _ _ _ _ (Rd.below HRd.out hbw4) (by omega) (by omega)).mono ?_
          intro e w5 hret
          obtain ⟨A5, c5, rfl, _, _, hb5⟩ := ret_open hret H5.out
          have hbw5 := hbw4.trans (hb5.mono hbw4.size)
          have HO5 := Lib.hid (own_below HO4.out hb5)
          have HR5 := Lib.hid (Rd.below HR4.out hb5)
          clear hret hb5 hbw4 HO4 HR4
          go_wp2_with fail
          refine (equal_same _ _ _ _ _ _ _ _ HR5.out (Rd.below HRd.out hbw5)).mono ?_
          rintro e w6 ⟨rfl, rfl⟩
          clear HR5
          go_wp2_with fail
          go_loopw [201] (fun i wr => ∃ (k : Nat) (zs : List Int), k ≤ L ∧ i = .int .i64 k ∧ Below w.heap.size w wr ∧ zs.length = L ∧ wr.ownsRow wp.heap.size 5 1 (.slice A1 L c1) L (bys zs)) (fun i _ => L - (intOf i).toNat)
          case atStart => exact ⟨0, ys, by omega, rfl, hbw5, HLen.out, HO5.out⟩
          case round =>
            clear hbw5 HO5
            obtain ⟨k3, zs, hk3, rfl, hb, hzl, hown⟩ := hrel
            by_cases hlt3 : k3 < L
            · have hd3 : decide ((k3 : Int) < (L : Int)) = true := by simp; omega
              obtain ⟨g, cap, he, hcap, hg, hg', hcs⟩ := own_at hown (by omega)
              injection he with he1 _ he2
              subst he1 he2
              have hck := hcs k3 hlt3
              have hfz := hown.frozenAt k3
              have HS := Lib.hid (fun y : Int => (hown.stored k3 (.int .u8 y)).1)
              clear hcs hown
              generalize zs.getD k3 0 = y at *
              go_wp2_with fail
              refine ⟨⟨k3 + 1, zs.set k3 ((y + 1) % 256), by omega, by go_num, hb.setCell (by show w.heap.size ≤ g; omega) _, by simpa using hzl, ?_⟩, by simp [intOf]; omega⟩
              rw [← bys_set_list]
              exact HS.out _
            · have hd3 : decide ((k3 : Int) < (L : Int)) = false := by simp; omega
              clear hown
              go_wp2_with fail
              refine (bytes_any _ _ _ _ _ _ _ (Rd.below HRd.out hb) (by omega) (by omega)).mono ?_
              rintro e w7 ⟨v, rfl, hown, hb7⟩
              rw [H1.out] at hown ⊢
              simp only [HLen.out] at hown
              obtain ⟨A7, c7, rfl, hc7, hr7⟩ := own_slice hown
              have HR7 := Lib.hid (show Rd w7 A7 L ys from hr7)
              have hbw7 := hb.trans (hb7.mono hb.size)
              clear hown hr7 hb7 hb
              go_wp2_with fail
              refine (equal_same _ _ _ _ _ _ _ _ HR7.out (Rd.below HRd.out hbw7)).mono ?_
              rintro e w8 ⟨rfl, rfl⟩
              go_wp2_with fail
              refine (works_any _).mono ?_
              rintro e w9 ⟨rfl, hb9⟩
              have hbw9 := hbw7.trans (hb9.mono hbw7.size)
              clear hb9 hbw7
              go_wp2_with fail
              go_ret
              exact ⟨rfl, hbw9⟩
end Go.Proofs.Ytaghbkmommdmgaa
