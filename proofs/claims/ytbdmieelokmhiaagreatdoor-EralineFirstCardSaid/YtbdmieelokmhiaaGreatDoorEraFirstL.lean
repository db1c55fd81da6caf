/-
  The law EralineFirst: what the call returns.
-/
import Derived.Test.YtbdmieelokmhiaaGreatDoorEraShortL
set_option linter.unusedVariables false
namespace Go.Proofs.YtbdmieelokmhiaaGreatDoor
open Go.RowKit

theorem wrongF_len (q : Nat) (hq : q < 7) : (wrongF.getD q []).length ≤ 30 := by
  rcases (by omega : q = 0 ∨ q = 1 ∨ q = 2 ∨ q = 3 ∨ q = 4 ∨ q = 5 ∨ q = 6) with rfl | rfl | rfl | rfl | rfl | rfl | rfl <;> decide
structure FTb (w : World) (gL : Nat) (W : World) : Prop where
  tab : Blk W gL 9 #[.string ⟨#[74, 97, 110]⟩, .string ⟨#[49]⟩, .string ⟨#[48, 58, 48, 48]⟩]
  old : Below w.heap.size w W
theorem FTb.more {w W : World} {gL : Nat} (h : FTb w gL W) (j : Nat) (hj : j < 3) : W.cell? ⟨gL, j, none⟩ = some (.string ⟨(restF.getD j []).toArray⟩) := by
  refine h.tab.cell_ ?_
  rcases (by omega : j = 0 ∨ j = 1 ∨ j = 2) with rfl | rfl | rfl <;> rfl
structure GSt (w : World) (g cap gW gE kb : Nat) (ful ls : List (List UInt8)) (W : World) : Prop where
  row : W.ownsRow w.heap.size 9 1 (.slice (some ⟨g, 0, none⟩) 7 cap) 7 (strV ls)
  len : ls.length = 7
  bef : ∀ i, i < kb → ls.getD i [] = ful.getD i []
  sz : ∀ a ∈ ls, a.length ≤ 30
  tW : Blk W gW 9 #[.string ⟨#[49, 58, 48]⟩, .string ⟨#[50, 58]⟩, .string ⟨#[34]⟩, .string ⟨#[120]⟩, .string ⟨#[88, 121, 122]⟩, .string ⟨#[108, 97, 115, 116, 83, 117, 32, 110]⟩, .string ⟨#[48, 58, 48, 48, 120]⟩]
  tE : Blk W gE 32 #[.int .i64 5, .int .i64 5, .int .i64 15, .int .i64 5, .int .i64 8, .int .i64 0, .int .i64 5]
  old : Below w.heap.size w W
theorem GSt.wr {w W : World} {g cap gW gE kb : Nat} {ful ls : List (List UInt8)} (h : GSt w g cap gW gE kb ful ls W) (q : Nat) (hq : q < 7) : W.cell? ⟨gW, q, none⟩ = some (.string ⟨(wrongF.getD q []).toArray⟩) := by
  refine h.tW.cell_ ?_
  rcases (by omega : q = 0 ∨ q = 1 ∨ q = 2 ∨ q = 3 ∨ q = 4 ∨ q = 5 ∨ q = 6) with rfl | rfl | rfl | rfl | rfl | rfl | rfl <;> rfl
theorem GSt.er {w W : World} {g cap gW gE kb : Nat} {ful ls : List (List UInt8)} (h : GSt w g cap gW gE kb ful ls W) (q : Nat) (hq : q < 7) : W.cell? ⟨gE, q, none⟩ = some (.int .i64 (wrongE.getD q 0)) := by
  refine h.tE.cell_ ?_
  rcases (by omega : q = 0 ∨ q = 1 ∨ q = 2 ∨ q = 3 ∨ q = 4 ∨ q = 5 ∨ q = 6) with rfl | rfl | rfl | rfl | rfl | rfl | rfl <;> rfl
theorem GSt.set_ {w W : World} {g cap gW gE kb : Nat} {ful ls : List (List UInt8)} (h : GSt w g cap gW gE kb ful ls W) (kb' q : Nat) (hk : kb' ≤ kb) (hkq : kb' ≤ q) (hq : q < 7) (hW : gW ≠ g) (hE : gE ≠ g) (h0 : w.heap.size ≤ g) :
    GSt w g cap gW gE kb' ful (ls.set q (wrongF.getD q [])) (W.setCell ⟨g, q, none⟩ (.string ⟨(wrongF.getD q []).toArray⟩)) := by
  refine ⟨?_, by simp [h.len], fun i hi => ?_, fun a ha => ?_, h.tW.far hW _, h.tE.far hE _, h.old.setCell h0 _⟩
  · have := (h.row.stored q (.string ⟨(wrongF.getD q []).toArray⟩)).1
    rwa [show (strV ls).set q (.string ⟨(wrongF.getD q []).toArray⟩) = strV (ls.set q (wrongF.getD q [])) by simp [strV, List.map_set]] at this
  · rw [List.getD_eq_getElem?_getD, List.getElem?_set_ne (by omega), ← List.getD_eq_getElem?_getD]
    exact h.bef i (by omega)
  · rcases List.mem_or_eq_of_mem_set ha with ha | rfl
    · exact h.sz a ha
    · exact wrongF_len q hq

set_option maxRecDepth 100000 in
set_option maxHeartbeats 2000000 in
theorem efirst_walk (a0 a1 a2 a3 a4 a5 a6 a7 a8 a9 a10 a11 a12 V : Value) (c b L k : Nat) (T : ByteArray) (fs ful : List (List UInt8)) (w : World) (hc : c < 256) (hb : b < 256) (hk : c % 7 = k) (hk7 : k < 7)
    (h7 : ful.length = 7) (hL : L ≤ 3) (hful : fs = ful.take (4 + L)) (hsz : Hid (∀ a ∈ ful, a.length ≤ 30))
    (Hq : Hid (∀ j, L ≤ j → j < 3 → strV (ful.take (4 + j)) ++ [.string ⟨(restF.getD j []).toArray⟩] = strV (ful.take (4 + j + 1))))
    (HM : Hid (∀ W, Calls Tryz.prog 15 #[.agg #[a0, a1, a2, a3, a4, a5, .int .u8 4, a7, a8, a9, a10, a11, a12]] W fun e w' => e = .returned V ∧ Below W.heap.size W w'))
    (HP : Hid (∀ W, Below w.heap.size w W → Calls Tryz.prog 13 #[V] W fun e w' => e = .returned (.tuple #[.string T, .int .i64 0]) ∧ Below W.heap.size W w'))
    (HS : Hid (∀ W, Below w.heap.size w W → Calls Tryz.prog 16 #[.string T, .string ⟨#[32]⟩] W fun e w' => (∃ g, e = .returned (.slice (some ⟨g, 0, none⟩) (4 + L) (4 + L)) ∧ W.heap.size ≤ g ∧ Hid (w'.ownsRow w.heap.size 9 1 (.slice (some ⟨g, 0, none⟩) (4 + L) (4 + L)) (4 + L) (strV fs))) ∧ Below W.heap.size W w'))
    (HPa : Hid (∀ W g cap (ls : List (List UInt8)), Below w.heap.size w W → StrArg W (some ⟨g, 0, none⟩) ls → ls.length = 7 → (∀ a ∈ ls, a.length ≤ 30) → (∀ i, i < k → ls.getD i [] = ful.getD i []) → ls.getD k [] = wrongF.getD k [] →
      Calls Tryz.prog 11 #[.slice (some ⟨g, 0, none⟩) 7 cap] W fun e w' => (∃ x : Int, e = .returned (.tuple #[.agg #[.int .i64 0, .int .i64 0, .int .i64 0, .string ⟨#[]⟩, .string ⟨#[]⟩, .bool false, .int .i64 0, .int .i64 0, .int .i64 0, .int .i64 0, .int .i64 0, .int .i64 0, .int .i64 0], .int .i64 x]) ∧ x ≠ 0 ∧ (wrongE.getD k 0 = 0 ∨ x = wrongE.getD k 0)) ∧ Below W.heap.size W w'))
    (HW : Hid (∀ W, Below w.heap.size w W → Calls Tryz.prog 10 #[] W fun e w' => e = .returned (.bool true) ∧ Below W.heap.size W w')) :
    Calls Tryz.prog 8 #[.agg #[a0, a1, a2, a3, a4, a5, a6, a7, a8, a9, a10, a11, a12], .int .u8 (c : Int), .int .u8 (b : Int)] w fun e w' => e = .returned (.bool true) ∧ Below w.heap.size w w' := by
  obtain ⟨i0, hi, hz0, hz1, hz2⟩ := info_parts infoStr
  have hDi : (Tryz.prog.info? 43).map (·.size) = some 13 := by kernel_rfl
  go_enter Tryz.func8, Tryz.ntmps8
  go_upto_region 2 with fail
  have HD := Lib.hid (show Blk (w.alloc (.cells #[a0, a1, a2, a3, a4, a5, .int .u8 4, a7, a8, a9, a10, a11, a12] 43)) w.heap.size 43 #[a0, a1, a2, a3, a4, a5, .int .u8 4, a7, a8, a9, a10, a11, a12] ∧ Below w.heap.size w (w.alloc (.cells #[a0, a1, a2, a3, a4, a5, .int .u8 4, a7, a8, a9, a10, a11, a12] 43)) from
    ⟨Blk.new' _ _ _ rfl, by go_grown⟩)
  generalize w.alloc (.cells #[a0, a1, a2, a3, a4, a5, .int .u8 4, a7, a8, a9, a10, a11, a12] 43) = w1 at *
  go_wp2_with (first | (refine wpList_load_row rfl 43 (.tmp 3) rfl w.heap.size rfl 43 #[a0, a1, a2, a3, a4, a5, .int .u8 4, a7, a8, a9, a10, a11, a12] (0, 0) _ HD.out.1 Tryz.underlying43 rfl hDi ?_) | fail)
  refine (HM.out _).mono ?_
  rintro e w2 ⟨rfl, hb2⟩
  have HB2 := Lib.hid (HD.out.2.trans (hb2.mono HD.out.2.size))
  clear hb2 HD HM hDi
  go_wp2_with fail
  refine (HP.out _ HB2.out).mono ?_
  rintro e w3 ⟨rfl, hb3⟩
  have HB3 := Lib.hid (HB2.out.trans (hb3.mono HB2.out.size))
  clear hb3 HB2 HP
  go_wp2_with fail
  refine (HS.out _ HB3.out).mono ?_
  rintro e w4 ⟨⟨g, rfl, hg, HO⟩, hb4⟩
  have HB4 := Lib.hid (HB3.out.trans (hb4.mono HB3.out.size))
  have HS5 := Lib.hid (show (w4.alloc (.cells #[.string ⟨#[74, 97, 110]⟩, .string ⟨#[49]⟩, .string ⟨#[48, 58, 48, 48]⟩] 9)).ownsRow w.heap.size 9 1 (.slice (some ⟨g, 0, none⟩) (4 + L) (4 + L)) (4 + L) (strV (ful.take (4 + L))) ∧ FTb w w4.heap.size (w4.alloc (.cells #[.string ⟨#[74, 97, 110]⟩, .string ⟨#[49]⟩, .string ⟨#[48, 58, 48, 48]⟩] 9)) from
    ⟨hful ▸ HO.out.alloc _, Blk.new' _ _ _ rfl, rbelow_alloc HB4.out _⟩)
  have HNe := Lib.hid (show w4.heap.size ≠ g from by
    have := (HO.out.lt g rfl).2
    omega)
  have hkT : (c : Int).tmod 7 = (k : Int) := by rw [Int.tmod_eq_emod_of_nonneg (by omega)]; omega
  have hkI : (c : Int) % 7 = (k : Int) := by omega
  have hk7I : (k : Int) < 7 := by omega
  have hk0I : (0 : Int) ≤ (k : Int) := by omega
  clear hb4 HB3 HB4 HS HO hg hful hk
  go_wp2_with fail
  generalize w4.alloc (.cells #[.string ⟨#[74, 97, 110]⟩, .string ⟨#[49]⟩, .string ⟨#[48, 58, 48, 48]⟩] 9) = w5 at *
  generalize w4.heap.size = gL at *
  go_loopw [9, 31] (fun v i wr => ∃ (j n g' cap : Nat), i = .int .i64 (j : Int) ∧ v = .slice (some ⟨g', 0, none⟩) n cap ∧ j ≤ 3 ∧ Hid (n = 4 + max L j) ∧ Hid (gL ≠ g') ∧ Hid (wr.ownsRow w.heap.size 9 1 (.slice (some ⟨g', 0, none⟩) n cap) n (strV (ful.take n)) ∧ FTb w gL wr)) (fun _ i _ => 3 - (intOf i).toNat)
  case atStart => exact ⟨0, 4 + L, g, 4 + L, rfl, rfl, by omega, Lib.hid (by omega), HNe, HS5⟩
  case round =>
    clear HS5 HNe
    obtain ⟨j, n, g', cap, rfl, rfl, hj, HN, HNe, HI⟩ := hrel
    by_cases hlt : j < 3
    · have cj := HI.out.2.more j hlt
      obtain ⟨sj, hsj⟩ : ∃ sj : ByteArray, (⟨(restF.getD j []).toArray⟩ : ByteArray) = sj := ⟨_, rfl⟩
      rw [hsj] at cj
      have Hsj := Lib.hid hsj
      clear hsj
      by_cases hjL : j < L
      · have hne : ((n : Int) == 4 + (j : Int)) = false := by
          rw [beq_eq_false_iff_ne]
          have := HN.out
          omega
        go_wp2_with fail
        go_roundw
        case rel => exact ⟨j + 1, n, g', cap, by go_num, rfl, by omega, Lib.hid (by have := HN.out; omega), HNe, HI⟩
        case measure => simp [intOf]; omega
      · have hne : ((n : Int) == 4 + (j : Int)) = true := by
          rw [beq_iff_eq]
          have := HN.out
          omega
        have HQ := Lib.hid (show strV (ful.take n) ++ [.string sj] = strV (ful.take (n + 1)) by
          have h4 : n = 4 + j := by have := HN.out; omega
          rw [h4, ← Hsj.out]; exact Hq.out j (by omega) hlt)
        go_wp2_with (at_builtin; refine wpList_append_any _ rfl (.tmp 41) (.tmp 43) 22 rfl w.heap.size 9 i0 (.string ⟨#[]⟩) 1 16 Tryz.underlying22 hi hz0 hz1 hz2 rfl (by decide) _ _ _ rfl (HI.out.1.alloc _) (wr.heap.size + 1) (some ⟨wr.heap.size, 0, none⟩) 1 1 [.string sj] rfl ?c0 ?c1 ?c2 ?c3 ?c4 ?_)
        case c0 => exact ⟨rfl, fun _ => ⟨_, rfl, by simp, cell_one_new _ _ _⟩⟩
        case c1 => first | (intro u hu; simp at hu; subst hu; rfl) | rfl
        try (case c2 => have := HN.out; unfold maxLen; omega)
        try (case c3 => have := HN.out; omega)
        try (case c4 => have := HI.out.2.old.size; simp; omega)
        intro v' wa hown' hgrow hv'
        have HI2 := Lib.hid (show wa.ownsRow w.heap.size 9 1 v' (n + 1) (strV (ful.take (n + 1))) ∧ FTb w gL wa from by
          have h := hown'
          rw [HQ.out] at h
          have ne2 := HNe.out
          exact ⟨h, (HI.out.2.tab.alloc _).grown hgrow (by simp [Value.ownBlock]; omega), below_push HI.out.2.old HI.out.2.old.size HI.out.1 hgrow⟩)
        have HV := Lib.hid hv'
        obtain ⟨g2, cap2, rfl, hgb, hgl⟩ := HI2.out.1.form (by omega)
        have HNe2 := Lib.hid (show gL ≠ g2 from by
          have l2 := HI.out.2.tab.lt
          have ne2 := HNe.out
          rcases HV.out with h | h <;> simp [Value.ownBlock] at h <;> omega)
        clear hown' hgrow hv' HV HI HQ cj HNe hgb hgl
        go_wp2_with fail
        go_roundw
        case rel => exact ⟨j + 1, n + 1, g2, cap2, by go_num, rfl, by omega, Lib.hid (by have := HN.out; omega), HNe2, HI2⟩
        case measure => simp [intOf]; omega
    · obtain rfl : n = 7 := by have := HN.out; omega
      obtain rfl : j = 3 := by omega
      have HJ := Lib.hid (show wr.ownsRow w.heap.size 9 1 (.slice (some ⟨g', 0, none⟩) 7 cap) 7 (strV ful) ∧ Below w.heap.size w wr from ⟨by
        have h := HI.out.1
        rwa [List.take_of_length_le (by omega)] at h, HI.out.2.old⟩)
      clear HI HN HNe hlt Hq
      have HG := Lib.hid (show GSt w g' cap wr.heap.size (wr.heap.size + 1) (k + 1) ful ful ((wr.alloc (.cells #[.string ⟨#[49, 58, 48]⟩, .string ⟨#[50, 58]⟩, .string ⟨#[34]⟩, .string ⟨#[120]⟩, .string ⟨#[88, 121, 122]⟩, .string ⟨#[108, 97, 115, 116, 83, 117, 32, 110]⟩, .string ⟨#[48, 58, 48, 48, 120]⟩] 9)).alloc (.cells #[.int .i64 5, .int .i64 5, .int .i64 15, .int .i64 5, .int .i64 8, .int .i64 0, .int .i64 5] 32)) from
        ⟨(HJ.out.1.alloc _).alloc _, h7, fun _ _ => rfl, hsz.out, (Blk.new' _ _ _ rfl).alloc _, Blk.new' _ _ _ (by simp), rbelow_alloc (rbelow_alloc HJ.out.2 _) _⟩)
      have HNg := Lib.hid (show wr.heap.size ≠ g' ∧ wr.heap.size + 1 ≠ g' ∧ w.heap.size ≤ g' from by
        have := HJ.out.1.lt g' rfl
        omega)
      clear HJ
      go_wp2_with fail
      generalize (wr.alloc (.cells #[.string ⟨#[49, 58, 48]⟩, .string ⟨#[50, 58]⟩, .string ⟨#[34]⟩, .string ⟨#[120]⟩, .string ⟨#[88, 121, 122]⟩, .string ⟨#[108, 97, 115, 116, 83, 117, 32, 110]⟩, .string ⟨#[48, 58, 48, 48, 120]⟩] 9)).alloc (.cells #[.int .i64 5, .int .i64 5, .int .i64 15, .int .i64 5, .int .i64 8, .int .i64 0, .int .i64 5] 32) = w8 at *
      generalize wr.heap.size = gW at *
      go_loopw [15] (fun i wq => ∃ (p : Nat) (ls : List (List UInt8)), p ≤ 6 ∧ k ≤ p ∧ i = .int .i64 ((p : Int) + 1) ∧ Hid (GSt w g' cap gW (gW + 1) (k + 1) ful ls wq)) (fun i _ => 7 - (intOf i).toNat)
      case atStart => exact ⟨k, ful, by omega, Nat.le_refl _, rfl, HG⟩
      case round =>
        clear HG
        obtain ⟨p, ls, hp, hkp, rfl, HG⟩ := hrel
        by_cases hp6 : p < 6
        · have hpI : (p : Int) + 1 < 7 := by omega
          have hpI0 : (0 : Int) ≤ (p : Int) + 1 := by omega
          by_cases hbt : (bits BinOp.and IntKind.u8 ((b : Int) / 2 ^ p) 1 == 1) = true
          · have cW := HG.out.wr (p + 1) (by omega)
            obtain ⟨sw, hsw⟩ : ∃ sw : ByteArray, (⟨(wrongF.getD (p + 1) []).toArray⟩ : ByteArray) = sw := ⟨_, rfl⟩
            rw [hsw] at cW
            obtain ⟨u0, hu0⟩ : ∃ u, wr.cell? ⟨g', p + 1, none⟩ = some u := by
              rw [HG.out.row.cellAt (p + 1) (by omega)]
              exact ⟨_, List.getElem?_eq_getElem (by rw [strV, List.length_map, HG.out.len]; omega)⟩
            have f0 := HG.out.row.frozenAt (p + 1)
            have hlt' := (HG.out.row.lt g' rfl).2
            have HG2 := Lib.hid (show GSt w g' cap gW (gW + 1) (k + 1) ful (ls.set (p + 1) (wrongF.getD (p + 1) [])) (wr.setCell ⟨g', p + 1, none⟩ (.string sw)) from by
              rw [← hsw]
              exact HG.out.set_ (k + 1) (p + 1) (Nat.le_refl _) (by omega) (by omega) HNg.out.1 HNg.out.2.1 HNg.out.2.2)
            clear hsw HG
            go_wp2_with fail
            go_roundw
            case rel => exact ⟨p + 1, _, by omega, by omega, by first | rfl | go_num, HG2⟩
            case measure => simp [intOf]; omega
          · have hbf : (bits BinOp.and IntKind.u8 ((b : Int) / 2 ^ p) 1 == 1) = false := by simpa using hbt
            clear hbt
            go_wp2_with fail
            go_roundw
            case rel => exact ⟨p + 1, ls, by omega, by omega, by first | rfl | go_num, HG⟩
            case measure => simp [intOf]; omega
        · obtain rfl : p = 6 := by omega
          have cW := HG.out.wr k hk7
          obtain ⟨sw, hsw⟩ : ∃ sw : ByteArray, (⟨(wrongF.getD k []).toArray⟩ : ByteArray) = sw := ⟨_, rfl⟩
          rw [hsw] at cW
          obtain ⟨u0, hu0⟩ : ∃ u, wr.cell? ⟨g', k, none⟩ = some u := by
            rw [HG.out.row.cellAt k (by omega)]
            exact ⟨_, List.getElem?_eq_getElem (by rw [strV, List.length_map, HG.out.len]; omega)⟩
          have f0 := HG.out.row.frozenAt k
          have hlt' := (HG.out.row.lt g' rfl).2
          have HG2 := Lib.hid (show GSt w g' cap gW (gW + 1) k ful (ls.set k (wrongF.getD k [])) (wr.setCell ⟨g', k, none⟩ (.string sw)) from by
            rw [← hsw]
            exact HG.out.set_ k k (by omega) (Nat.le_refl _) hk7 HNg.out.1 HNg.out.2.1 HNg.out.2.2)
          have HK := Lib.hid (show (ls.set k (wrongF.getD k [])).getD k [] = wrongF.getD k [] by
            rw [List.getD_eq_getElem?_getD, List.getElem?_set_self (by rw [HG.out.len]; omega)]; rfl)
          clear hsw HG hp6
          go_upto_region 23 with fail
          generalize wr.setCell ⟨g', k, none⟩ (.string sw) = wt at *
          generalize ls.set k (wrongF.getD k []) = l2 at *
          clear cW hu0 f0 hlt'
          go_wp2_with fail
          refine (HPa.out _ _ _ l2 HG2.out.old (own_arg HG2.out.row) HG2.out.len HG2.out.sz HG2.out.bef HK.out).mono ?_
          rintro e wv ⟨⟨x, rfl, hx0, hx⟩, hbv⟩
          have HX := Lib.hid (show Blk (wv.alloc (.cells #[.int .i64 0, .int .i64 0, .int .i64 0, .string ⟨#[]⟩, .string ⟨#[]⟩, .bool false, .int .i64 0, .int .i64 0, .int .i64 0, .int .i64 0, .int .i64 0, .int .i64 0, .int .i64 0] 31)) (gW + 1) 32 #[.int .i64 5, .int .i64 5, .int .i64 15, .int .i64 5, .int .i64 8, .int .i64 0, .int .i64 5] ∧ Below w.heap.size w (wv.alloc (.cells #[.int .i64 0, .int .i64 0, .int .i64 0, .string ⟨#[]⟩, .string ⟨#[]⟩, .bool false, .int .i64 0, .int .i64 0, .int .i64 0, .int .i64 0, .int .i64 0, .int .i64 0, .int .i64 0] 31)) from
            ⟨(HG2.out.tE.below hbv HG2.out.tE.lt).alloc _, rbelow_alloc (HG2.out.old.trans (hbv.mono HG2.out.old.size)) _⟩)
          have cE : (wv.alloc (.cells #[.int .i64 0, .int .i64 0, .int .i64 0, .string ⟨#[]⟩, .string ⟨#[]⟩, .bool false, .int .i64 0, .int .i64 0, .int .i64 0, .int .i64 0, .int .i64 0, .int .i64 0, .int .i64 0] 31)).cell? ⟨gW + 1, k, none⟩ = some (.int .i64 (wrongE.getD k 0)) := by
            refine HX.out.1.cell_ ?_
            rcases (by omega : k = 0 ∨ k = 1 ∨ k = 2 ∨ k = 3 ∨ k = 4 ∨ k = 5 ∨ k = 6) with rfl | rfl | rfl | rfl | rfl | rfl | rfl <;> rfl
          have hxI : (x != 0) = true := bne_iff_ne.2 hx0
          generalize wrongE.getD k 0 = ek at *
          clear hbv HG2 HK HPa
          go_upto_region 24 with fail
          have z0 : (wv.alloc (.cells #[.int .i64 0, .int .i64 0, .int .i64 0, .string ⟨#[]⟩, .string ⟨#[]⟩, .bool false, .int .i64 0, .int .i64 0, .int .i64 0, .int .i64 0, .int .i64 0, .int .i64 0, .int .i64 0] 31)).cell? ⟨wv.heap.size, 0, none⟩ = some (.int .i64 0) := (Blk.new' _ _ _ rfl).cell_ rfl
          rcases hx with rfl | rfl
          · clear z0 hx0
            go_wp2_with fail
            refine (HW.out _ HX.out.2).mono ?_
            rintro e wz ⟨rfl, hbz⟩
            have HZ := Lib.hid (HX.out.2.trans (hbz.mono HX.out.2.size))
            clear HX hbz cE
            go_wp2_with fail
            go_ret
            exact ⟨rfl, HZ.out⟩
          · have hxF : (x == 0) = false := beq_eq_false_iff_ne.2 hx0
            clear z0 hx0
            go_wp2_with fail
            refine (HW.out _ HX.out.2).mono ?_
            rintro e wz ⟨rfl, hbz⟩
            have HZ := Lib.hid (HX.out.2.trans (hbz.mono HX.out.2.size))
            clear HX hbz cE
            go_wp2_with fail
            go_ret
            exact ⟨rfl, HZ.out⟩
theorem era4_is (d : DraftE) : ({ d with pt := 4 } : DraftE).era.til.is = true := by
  show (eraM _ _ _ _ _ _ _ _ _ _ _ _ _).til.is = true
  rw [eraM_is]; rfl
theorem efirst_any (d : DraftE) (hd : d.Ok) (c b : Nat) (hc : c < 256) (hb : b < 256) (w : World) (hT : ETabs w) (hM : MaxL w) :
    Calls Tryz.prog 8 #[.agg d.cells, .int .u8 (c : Int), .int .u8 (b : Int)] w fun e w' => e = .returned (.bool true) ∧ Below w.heap.size w w' := by
  have hd4 : ({ d with pt := 4 } : DraftE).Ok := ⟨hd.off, hd.sv, hd.at_, hd.kd, hd.st, hd.fm, (show (4 : Nat) < 256 by decide), hd.yr, hd.mo, hd.bs, hd.dk, hd.dw, hd.dd⟩
  have HM := fun W => emade_any _ hd4 W
  have hr := DraftE.right { d with pt := 4 }
  have hi := era4_is d
  simp only [DraftE.cells] at HM ⊢
  have HT : ∀ W, Below w.heap.size w W → ETabs W := fun W hW => hT.below hW
  have HML : ∀ W, Below w.heap.size w W → MaxL W := fun W hW => hM.below hW
  have HW := fun W hW => eworks_any W (HT W hW) (HML W hW)
  generalize ({ d with pt := 4 } : DraftE).era = e at *
  have hlen : (eraFs e).length = 4 + lastN e.til := by
    rw [eraFs_take hi, List.length_take, fullFs_len]
    have := lastN_le e.til
    omega
  have HP := fun W hW => eprint_right e hr W (HT W hW)
  have HS := fun W (hW : Below w.heap.size w W) => esplit_own e hr w.heap.size W (HML W hW) hW.size
  rw [hlen] at HS
  refine efirst_walk _ _ _ _ _ _ _ _ _ _ _ _ _ (.agg e.cells) c b (lastN e.til) (c % 7) ⟨(eraT e).toArray⟩ (eraFs e) (fullFs e) w hc hb rfl (Nat.mod_lt _ (by decide)) (fullFs_len e) (lastN_le _) (eraFs_take hi) (Lib.hid (full_len30 hr hi)) (Lib.hid fun j h1 h2 => full_snoc hr hi j h1 h2) (Lib.hid HM) (Lib.hid HP) (Lib.hid HS) (Lib.hid fun W g cap ls hW hA hl hsz hbef hat => ?_) (Lib.hid HW)
  obtain ⟨e1, e2, e3⟩ := era_wrong hr hi ls (c % 7) (Nat.mod_lt _ (by decide)) hl hbef hat
  refine (eparse_on _ 7 cap ls _ W (HT W hW) hA hl hsz (by decide) rfl).mono fun r w' ⟨hr', hb'⟩ => ⟨⟨(eraR ls).2, ?_, e2, e3⟩, hb'⟩
  rw [hr', e1]; rfl
end Go.Proofs.YtbdmieelokmhiaaGreatDoor
