/-
  The references of layer 9: Parse and Print; DayspecReads: the walk.
-/
import Derived.Test.YtbdmieelokmhiaaGreatDoorRef9
import Derived.Outline
set_option linter.unusedVariables false
namespace Go.Proofs.YtbdmieelokmhiaaGreatDoor
open Go.RowKit

theorem indexAny_at : ∀ (s : List UInt8) (i : Nat), Lib.indexAny s signs = (i : Int) → ∃ c, s[i]? = some c ∧ (c = 60 ∨ c = 62)
  | [], i, h => by simp [Lib.indexAny] at h
  | b :: l, i, h => by
    unfold Lib.indexAny at h
    split at h
    · rename_i hb
      obtain rfl : i = 0 := by omega
      exact ⟨b, rfl, by simpa [signs] using hb⟩
    · split at h
      · omega
      · rename_i _ hx
        have hge := Lib.indexAny_ge signs l
        have hne : Lib.indexAny l signs ≠ -1 := by simpa using hx
        obtain ⟨j, rfl⟩ : ∃ j, i = j + 1 := ⟨i - 1, by omega⟩
        obtain ⟨c, hc, h2⟩ := indexAny_at l j (by omega)
        exact ⟨c, by simpa using hc, h2⟩

set_option maxRecDepth 100000 in
set_option maxHeartbeats 2000000 in
theorem rparse_any (s : ByteArray) (hs : s.size ≤ 1048576) (w : World) :
    Calls Tryz.prog 62 #[.string s] w fun e w' => e = .returned (.tuple #[dayV (parseR s.data.toList).1, .int .i64 (parseR s.data.toList).2]) ∧ Below w.heap.size w w' := by
  have HS := Lib.hid (rsign_any s hs (w.alloc (.cells #[.int .i64 0, .int .i64 0, .int .i64 0] 25)))
  have hB0 : Below w.heap.size w (w.alloc (.cells #[.int .i64 0, .int .i64 0, .int .i64 0] 25)) := (Below.refl _ w).alloc (Nat.le_refl _) _
  by_cases hA : 0 ≤ Lib.indexAny s.data.toList signs ∧ Lib.hasPrefix (s.data.toList.drop ((Lib.indexAny s.data.toList signs).toNat + 1)) [61] = true
  · have HP := Lib.hid (show parseR s.data.toList = comparedR s.data.toList (Lib.indexAny s.data.toList signs).toNat from if_pos hA)
    have HG := Lib.hid (show signR s.data.toList = (Lib.indexAny s.data.toList signs, Lib.hasPrefix (s.data.toList.drop ((Lib.indexAny s.data.toList signs).toNat + 1)) [61]) from if_pos hA.1)
    obtain ⟨h0, hp⟩ := hA
    obtain ⟨i, hi⟩ := Int.eq_ofNat_of_zero_le h0
    obtain ⟨c, hc, hcc⟩ := indexAny_at _ i hi
    rw [hi] at HP HG hp
    rw [Int.toNat_natCast] at HP HG hp
    rw [hp] at HG
    have h61 : s.data.toList[i + 1]? = some 61 := by
      have := pre_one hp
      rwa [List.getElem?_drop] at this
    have hi1 : i + 1 < s.size := by
      rw [← size_data]
      exact (List.getElem?_eq_some_iff.1 h61).1
    rw [comparedR, hc] at HP
    obtain ⟨c2, hc2, g0⟩ := byte_at s i (by omega)
    obtain rfl : c = c2 := by rw [hc] at hc2; exact Option.some.inj hc2
    rw [HG.out] at HS
    clear hp hi h0 HG h61 hc hc2
    go_enter Tryz.func62, Tryz.ntmps62
    go_wp2_with fail
    refine HS.out.mono ?_
    rintro e w1 ⟨rfl, hb1⟩
    have b2 : Blk w1 w.heap.size 25 #[.int .i64 0, .int .i64 0, .int .i64 0] := (Blk.new' w _ _ rfl).below hb1 (by simp)
    have HB1 := Lib.hid (hB0.trans (hb1.mono hB0.size))
    have HB2 := Lib.hid b2
    clear hb1 b2 hB0 HS
    go_wp2_with fail
    refine (rweek_any _ _ (size_part s 0 i _ hs)).mono ?_
    rintro e w2 ⟨rfl, hb2⟩
    have b2 := HB2.out.below hb2 HB2.out.lt
    have HBu := Lib.hid (HB1.out.trans (hb2.mono HB1.out.size))
    obtain ⟨r0, r1, r2, q0, q1, q2⟩ := b2.three
    rw [list_upto]
    have hwe := weekR_err (s.data.toList.take i)
    generalize weekR (s.data.toList.take i) = A at *
    obtain ⟨wi, we⟩ := A
    clear hb2 b2 HB1 HB2
    simp only at hwe
    rcases hwe with rfl | rfl
    · go_wp2_with fail
      refine (rnumber_any _ _).mono ?_
      rintro e w3 ⟨rfl, rfl⟩
      rw [list_from]
      have hne := numR_err (s.data.toList.drop (i + 2))
      generalize numR (s.data.toList.drop (i + 2)) = B at *
      obtain ⟨ni, ne⟩ := B
      simp only at hne
      rcases hne with rfl | rfl | rfl
      · rcases hcc with rfl | rfl
        all_goals
          have g0 : ∀ h, (s[i]'h).toNat = _ := g0
          go_wp2_with fail
          refine bodyPost_ret (by simp [results, Tryz.results62, go_sem, r0, r1, r2]; rfl) rfl ⟨?_, ?_⟩
          · rw [HP.out]; rfl
          · have hBu := HBu.out; go_grown
      all_goals
        go_wp2_with fail
        refine bodyPost_ret (by simp [results, Tryz.results62, go_sem, r0, r1, r2]; rfl) rfl ⟨?_, ?_⟩
        · rw [HP.out]; rfl
        · have hBu := HBu.out; go_grown
    · go_wp2_with fail
      refine bodyPost_ret (by simp [results, Tryz.results62, go_sem, r0, r1, r2]; rfl) rfl ⟨?_, ?_⟩
      · rw [HP.out]; rfl
      · have hBu := HBu.out; go_grown
  · have HP := Lib.hid (show parseR s.data.toList = if 4 ≤ s.data.toList.length ∧ Lib.equalFold (s.data.toList.take 4) lastL = true then joinR 2 (weekR (s.data.toList.drop 4)) (0, 0) else joinR 1 (0, 0) (numR s.data.toList) from if_neg hA)
    have HG := Lib.hid (show (signR s.data.toList).2 = false by
      unfold signR
      split
      · rename_i h
        exact Bool.eq_false_iff.2 fun h2 => hA ⟨h, h2⟩
      · rfl)
    have HLs := Lib.hid (fun w => rlast_any s hs w)
    have HLR := Lib.hid (show lastR s.data.toList = decide (4 ≤ s.data.toList.length ∧ Lib.equalFold (s.data.toList.take 4) lastL = true) by
      unfold lastR
      rw [Bool.eq_iff_iff]
      simp)
    clear hA
    go_enter Tryz.func62, Tryz.ntmps62
    go_wp2_with fail
    refine HS.out.mono ?_
    rintro e w1 ⟨rfl, hb1⟩
    rw [HG.out]
    have b2 : Blk w1 w.heap.size 25 #[.int .i64 0, .int .i64 0, .int .i64 0] := (Blk.new' w _ _ rfl).below hb1 (by simp)
    have HB1 := Lib.hid (hB0.trans (hb1.mono hB0.size))
    have HB2 := Lib.hid b2
    generalize (signR s.data.toList).1 = sg at *
    clear hb1 b2 hB0 HS HG
    go_wp2_with fail
    refine (HLs.out _).mono ?_
    rintro e w2 ⟨rfl, hb2⟩
    rw [HLR.out]
    have b2 := HB2.out.below hb2 HB2.out.lt
    have HBv := Lib.hid (HB1.out.trans (hb2.mono HB1.out.size))
    have HBb := Lib.hid b2
    clear hb2 b2 HB2 HB1 HLs HLR
    by_cases h4 : 4 ≤ s.data.toList.length ∧ Lib.equalFold (s.data.toList.take 4) lastL = true
    · rw [if_pos h4] at HP
      rw [decide_eq_true h4]
      have h4i : (4 : Int) ≤ (s.size : Int) := by have := h4.1; rw [size_data] at this; omega
      clear h4
      go_wp2_with fail
      refine (rweek_any _ _ (size_part s 4 s.size _ hs)).mono ?_
      rintro e w3 ⟨rfl, hb3⟩
      have b2 := HBb.out.below hb3 HBb.out.lt
      have HBu := Lib.hid (HBv.out.trans (hb3.mono HBv.out.size))
      obtain ⟨r0, r1, r2, q0, q1, q2⟩ := b2.three
      rw [list_from]
      have hwe := weekR_err (s.data.toList.drop 4)
      generalize weekR (s.data.toList.drop 4) = A at *
      obtain ⟨wi, we⟩ := A
      clear hb3 b2 HBv HBb
      simp only at hwe
      rcases hwe with rfl | rfl
      all_goals
        go_wp2_with fail
        refine bodyPost_ret (by simp [results, Tryz.results62, go_sem, r0, r1, r2]; rfl) rfl ⟨?_, ?_⟩
        · rw [HP.out]; rfl
        · have hBu := HBu.out; go_grown
    · rw [if_neg h4] at HP
      rw [decide_eq_false h4]
      clear h4
      obtain ⟨r0, r1, r2, q0, q1, q2⟩ := HBb.out.three
      have HBu := HBv
      go_wp2_with fail
      refine (rnumber_any _ _).mono ?_
      rintro e w3 ⟨rfl, rfl⟩
      have hne := numR_err s.data.toList
      generalize numR s.data.toList = B at *
      obtain ⟨ni, ne⟩ := B
      simp only at hne
      rcases hne with rfl | rfl | rfl
      all_goals
        go_wp2_with fail
        refine bodyPost_ret (by simp [results, Tryz.results62, go_sem, r0, r1, r2]; rfl) rfl ⟨?_, ?_⟩
        · rw [HP.out]; rfl
        · have hBu := HBu.out; go_grown

set_option maxRecDepth 100000 in
set_option maxHeartbeats 1000000 in
theorem rprint_any (k wk d : Int) (w : World) :
    Calls Tryz.prog 31 #[.agg #[.int .i64 k, .int .i64 wk, .int .i64 d]] w fun e w' => e = .returned (.tuple #[.string ⟨(printR k wk d).1.toArray⟩, .int .i64 (printR k wk d).2]) ∧ Below w.heap.size w w' := by
  have hB0 : Below w.heap.size w (w.alloc (.cells #[.int .i64 k, .int .i64 wk, .int .i64 d] 25)) := (Below.refl _ _).alloc (Nat.le_refl _) _
  have HC := Lib.hid (rcheck_any k wk d (w.alloc (.cells #[.int .i64 k, .int .i64 wk, .int .i64 d] 25)))
  by_cases hr : rightDay k wk d = true
  · have HR := Lib.hid (show printR k wk d = (dayText k wk d, 0) from if_pos hr)
    have HK := Lib.hid (show checkR k wk d = 0 from if_pos hr)
    obtain ⟨hk1, hk4, hw0, hw6, hd0, hd31⟩ := right_bd hr
    obtain ⟨n, rfl⟩ := Int.eq_ofNat_of_zero_le hd0
    have HD := Lib.hid (fun w => rdigits_any n (by omega) w)
    clear hr
    go_enter Tryz.func31, Tryz.ntmps31
    go_wp2_with fail
    refine HC.out.mono ?_
    rintro e w1 ⟨rfl, hb1⟩
    rw [HK.out]
    have b0 : Blk w1 w.heap.size 25 #[.int .i64 k, .int .i64 wk, .int .i64 (n : Int)] := (Blk.new' _ _ _ rfl).below hb1 (by simp)
    have HB0 := Lib.hid b0
    obtain ⟨c0, c1, c2, _, _, _⟩ := b0.three
    have HB1 := Lib.hid (hB0.trans (hb1.mono hB0.size))
    clear b0 hb1 hB0 HC
    go_wp2_with fail
    refine (rweekText_any wk _).mono ?_
    rintro e w2 ⟨rfl, hb2⟩
    have b2 := HB0.out.below hb2 HB0.out.lt
    have HB2 := Lib.hid (HB1.out.trans (hb2.mono HB1.out.size))
    clear hb2 HB0 HB1 c0 c1 c2
    obtain ⟨c0, c1, c2, _, _, _⟩ := b2.three
    have hdl := digits_len (n : Int) hd0 hd31
    have hwl := weekT_len wk
    rw [Int.toNat_natCast] at hdl
    have HT := Lib.hid (show dayText k wk (n : Int) = if k = 1 then Lib.decDigits n else if k = 2 then [108, 97, 115, 116] ++ weekT wk else if k = 3 then weekT wk ++ [62, 61] ++ Lib.decDigits n else weekT wk ++ [60, 61] ++ Lib.decDigits n from rfl)
    generalize Lib.decDigits n = dl at *
    generalize weekT wk = wl at *
    clear b2
    rcases (by omega : k = 1 ∨ k = 2 ∨ k = 3 ∨ k = 4) with rfl | rfl | rfl | rfl
    · go_wp2_with fail
      refine (HD.out _).mono ?_
      rintro e w3 ⟨rfl, hb3⟩
      go_wp2_with fail
      go_ret2
      refine ⟨?_, HB2.out.trans (hb3.mono HB2.out.size)⟩
      rw [HR.out, HT.out]; rfl
    · go_wp2_with fail
      go_ret2
      refine ⟨?_, HB2.out⟩
      rw [HR.out, HT.out]
      simp [ba_append]
    · go_wp2_with fail
      refine (HD.out _).mono ?_
      rintro e w3 ⟨rfl, hb3⟩
      go_wp2_with fail
      go_ret2
      refine ⟨?_, HB2.out.trans (hb3.mono HB2.out.size)⟩
      rw [HR.out, HT.out]
      simp [ba_append]
    · go_wp2_with fail
      refine (HD.out _).mono ?_
      rintro e w3 ⟨rfl, hb3⟩
      go_wp2_with fail
      go_ret2
      refine ⟨?_, HB2.out.trans (hb3.mono HB2.out.size)⟩
      rw [HR.out, HT.out]
      simp [ba_append]
  · have HR := Lib.hid (show printR k wk d = ([], 2) from if_neg hr)
    have HK := Lib.hid (show checkR k wk d = 2 from if_neg hr)
    clear hr
    go_enter Tryz.func31, Tryz.ntmps31
    go_wp2_with fail
    refine HC.out.mono ?_
    rintro e w1 ⟨rfl, hb1⟩
    rw [HK.out]
    have HB1 := Lib.hid (hB0.trans (hb1.mono hB0.size))
    clear hb1 hB0
    go_wp2_with fail
    go_ret2
    exact ⟨by rw [HR.out]; rfl, HB1.out⟩
end Go.Proofs.YtbdmieelokmhiaaGreatDoor
