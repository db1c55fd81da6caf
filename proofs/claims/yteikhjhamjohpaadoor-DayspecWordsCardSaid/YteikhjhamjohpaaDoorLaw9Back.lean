/-
  Day forms by numbers (Made); DayspecBack: the walk.
-/
import Derived.Test.YteikhjhamjohpaaDoorLaw9
import Derived.Deep.RegionHeld3
import Derived.Deep.DeepCutAuto
set_option linter.unusedVariables false
namespace Go.Proofs.YteikhjhamjohpaaDoor
open Go.RowKit

def madeR (k wk d : Nat) : Int × Int × Int := (1 + (k % 4 : Nat), if k % 4 = 0 then 0 else ((wk % 7 : Nat) : Int), if k % 4 = 1 then 0 else 1 + ((d % 31 : Nat) : Int))
theorem madeR_mod (k wk d : Nat) : madeR k wk d = madeR (k % 4) (wk % 7) (d % 31) := by simp [madeR]
theorem made_fin : ∀ k : Fin 4, ∀ wk : Fin 7, ∀ d : Fin 31, rightDay (madeR k.val wk.val d.val).1 (madeR k.val wk.val d.val).2.1 (madeR k.val wk.val d.val).2.2 = true ∧
    parseR (dayText (madeR k.val wk.val d.val).1 (madeR k.val wk.val d.val).2.1 (madeR k.val wk.val d.val).2.2) = (madeR k.val wk.val d.val, 0) ∧ (dayText (madeR k.val wk.val d.val).1 (madeR k.val wk.val d.val).2.1 (madeR k.val wk.val d.val).2.2).length ≤ 100 := by decide +kernel
def madeT (m : Int × Int × Int) : List UInt8 := dayText m.1 m.2.1 m.2.2
theorem made_all (k wk d : Nat) : rightDay (madeR k wk d).1 (madeR k wk d).2.1 (madeR k wk d).2.2 = true ∧ parseR (madeT (madeR k wk d)) = (madeR k wk d, 0) ∧ (madeT (madeR k wk d)).length ≤ 100 := by
  have h := made_fin ⟨k % 4, Nat.mod_lt _ (by decide)⟩ ⟨wk % 7, Nat.mod_lt _ (by decide)⟩ ⟨d % 31, Nat.mod_lt _ (by decide)⟩
  simp only [← madeR_mod] at h
  exact h

theorem cell_drew {w : World} {p : Addr} {v : Value} (h : w.cell? p = some v) : w.drew.cell? p = some v := h
theorem cell_alloc {w : World} {p : Addr} {v : Value} (h : w.cell? p = some v) (o : Obj) : (w.alloc o).cell? p = some v := (World.cell?_alloc_lt w o p (block_lt_of_cell h)).trans h
def dayO (m : Int × Int × Int) : Obj := .cells #[.int .i64 m.1, .int .i64 m.2.1, .int .i64 m.2.2] 23
theorem day_eq {a b c : Int} {m : Int × Int × Int} (w : World) (h : (a, b, c) = m) : Ending.returned (.agg #[.int .i64 a, .int .i64 b, .int .i64 c]) = .returned (dayV m) ∧
    (w.alloc (dayO m)).alloc (dayO m) = (w.alloc (.cells #[.int .i64 a, .int .i64 b, .int .i64 c] 23)).alloc (.cells #[.int .i64 a, .int .i64 b, .int .i64 c] 23) := by subst h; exact ⟨rfl, rfl⟩

set_option maxRecDepth 100000 in
set_option maxHeartbeats 1000000 in
theorem made_any (k wk d : Nat) (hk : k < 256) (hw : wk < 256) (hd : d < 256) (w : World) :
    Calls Tryd.prog 12 #[.int .u8 (k : Int), .int .u8 (wk : Int), .int .u8 (d : Int)] w fun e w' => e = .returned (dayV (madeR k wk d)) ∧ (w.alloc (dayO (madeR k wk d))).alloc (dayO (madeR k wk d)) = w' := by
  go_enter Tryd.func12, Tryd.ntmps12
  go_wp2
  all_goals
    go_returns
    refine day_eq _ ?_
    simp only [beq_iff_eq, beq_eq_false_iff_ne, ne_eq] at *
    simp only [madeR, Prod.mk.injEq]
    refine ⟨by omega, ?_, ?_⟩ <;> split <;> omega

set_option maxRecDepth 100000 in
set_option maxHeartbeats 2000000 in
theorem back_walk (a0 a1 a2 b0 b1 b2 : Nat) (h0 : a0 < 256) (h1 : a1 < 256) (h2 : a2 < 256) (h3 : b0 < 256) (h4 : b1 < 256) (h5 : b2 < 256) (w : World) (hT : Tabs w) :
    Calls Tryd.prog 4 #[.agg #[.int .u8 (a0 : Int), .int .u8 (a1 : Int), .int .u8 (a2 : Int)], .agg #[.int .u8 (b0 : Int), .int .u8 (b1 : Int), .int .u8 (b2 : Int)]] w fun e w' => e = .returned (.bool true) ∧ Below w.heap.size w w' := by
  obtain ⟨r1, r2, r3⟩ := made_all a0 a1 a2
  obtain ⟨s1, s2, s3⟩ := made_all b0 b1 b2
  have HM := Lib.hid (fun w => made_any a0 a1 a2 h0 h1 h2 w)
  have HN := Lib.hid (fun w => made_any b0 b1 b2 h3 h4 h5 w)
  generalize madeR a0 a1 a2 = m at *
  generalize madeR b0 b1 b2 = n at *
  obtain ⟨m0, m1, m2⟩ := m
  obtain ⟨n0, n1, n2⟩ := n
  unfold dayV dayO at HM HN
  have R := Lib.hid (And.intro r1 (And.intro r2 (And.intro s1 s2)))
  clear r1 r2 s1 s2
  go_enter Tryd.func4, Tryd.ntmps4
  go_upto_region 1 with fail
  go_cut [5, 6] (fun s5 s6 wx => ∃ g5 g6 : Nat, s5 = .pointer (some ⟨g5, 0, none⟩) ∧ s6 = .pointer (some ⟨g6, 0, none⟩) ∧ Blk wx g5 23 #[.int .i64 m0, .int .i64 m1, .int .i64 m2] ∧ Blk wx g6 23 #[.int .i64 n0, .int .i64 n1, .int .i64 n2] ∧ Below w.heap.size w wx)
  case first =>
    obtain ⟨w0, hw0⟩ : ∃ w0, w0 = (w.alloc (.cells #[.int .u8 (a0 : Int), .int .u8 (a1 : Int), .int .u8 (a2 : Int)] 31)).alloc (.cells #[.int .u8 (b0 : Int), .int .u8 (b1 : Int), .int .u8 (b2 : Int)] 31) := ⟨_, rfl⟩
    rw [← hw0]
    obtain ⟨c0, c1, c2, _, _, _⟩ := (show Blk w0 w.heap.size 31 #[.int .u8 (a0 : Int), .int .u8 (a1 : Int), .int .u8 (a2 : Int)] by rw [hw0]; exact (Blk.new' w _ _ rfl).alloc _).three
    obtain ⟨c3, c4, c5, _, _, _⟩ := (show Blk w0 (w.heap.size + 1) 31 #[.int .u8 (b0 : Int), .int .u8 (b1 : Int), .int .u8 (b2 : Int)] by rw [hw0]; exact Blk.new' _ _ _ (by simp)).three
    have HB0 := Lib.hid (show Below w.heap.size w w0 by rw [hw0]; exact ((Below.refl _ _).alloc (Nat.le_refl _) _).alloc (by simp) _)
    clear hw0
    go_region_held3 (fun w' => w'.cell? ⟨w.heap.size, 0, none⟩ = some (.int .u8 (a0 : Int)) ∧ w'.cell? ⟨w.heap.size, 1, none⟩ = some (.int .u8 (a1 : Int)) ∧ w'.cell? ⟨w.heap.size, 2, none⟩ = some (.int .u8 (a2 : Int)) ∧
        w'.cell? ⟨w.heap.size + 1, 0, none⟩ = some (.int .u8 (b0 : Int)) ∧ w'.cell? ⟨w.heap.size + 1, 1, none⟩ = some (.int .u8 (b1 : Int)) ∧ w'.cell? ⟨w.heap.size + 1, 2, none⟩ = some (.int .u8 (b2 : Int)))
      ((repeat' apply And.intro) <;> (repeat (first | (with_reducible assumption) | (with_reducible refine cell_drew ?_) | (with_reducible refine cell_alloc ?_ _))))
      (first | ((go_at_call 12; (with_reducible refine (HM.out _).mono ?_); rintro e w2 ⟨rfl, rfl⟩))
             | ((go_at_call 12; (with_reducible refine (HN.out _).mono ?_); rintro e w3 ⟨rfl, rfl⟩)))
    all_goals
      go_wp2_with fail
      go_meet
      refine ⟨_, _, rfl, rfl, ?_, ?_, ?_⟩
      · repeat (first | (with_reducible refine Blk.new' _ _ _ ?_; (simp; done)) | (with_reducible refine Blk.drew ?_) | (with_reducible refine Blk.alloc ?_ _))
      · repeat (first | (with_reducible refine Blk.new' _ _ _ ?_; (simp; done)) | (with_reducible refine Blk.drew ?_) | (with_reducible refine Blk.alloc ?_ _))
      · have hB0 := HB0.out
        have hz0 := hB0.size
        go_grown
  case rest =>
    obtain ⟨g5, g6, rfl, rfl, b5, b6, hB⟩ := hcut
    obtain ⟨c0, c1, c2, _, _, _⟩ := b5.three
    obtain ⟨d0, d1, d2, _, _, _⟩ := b6.three
    have HP := Lib.hid (And.intro b5 (And.intro b6 hB))
    clear b5 b6 hB HM HN
    have HpM := Lib.hid (show printR m0 m1 m2 = (madeT (m0, m1, m2), 0) from if_pos R.out.1)
    have HpN := Lib.hid (show printR n0 n1 n2 = (madeT (n0, n1, n2), 0) from if_pos R.out.2.2.1)
    have HcM := Lib.hid (show checkR m0 m1 m2 = 0 from if_pos R.out.1)
    generalize hE1 : madeT (m0, m1, m2) = tm at *
    generalize hE2 : madeT (n0, n1, n2) = tn at *
    have HE := Lib.hid (And.intro hE1 hE2)
    clear hE1 hE2
    go_wp2_with fail
    refine (print_any m0 m1 m2 _ (hT.below HP.out.2.2).kinds (hT.below HP.out.2.2).weeks).mono ?_
    rintro e w1 ⟨rfl, hb1⟩
    rw [HpM.out]
    have b5 := HP.out.1.below hb1 HP.out.1.lt
    have b6 := HP.out.2.1.below hb1 HP.out.2.1.lt
    have HP1 := Lib.hid (And.intro b5 (And.intro b6 (HP.out.2.2.trans (hb1.mono HP.out.2.2.size))))
    clear c0 c1 c2 d0 d1 d2 b5 hb1 HP
    obtain ⟨d0, d1, d2, _, _, _⟩ := b6.three
    clear b6
    go_wp2_with fail
    refine (print_any n0 n1 n2 _ (hT.below HP1.out.2.2).kinds (hT.below HP1.out.2.2).weeks).mono ?_
    rintro e w2 ⟨rfl, hb2⟩
    rw [HpN.out]
    have b5 := HP1.out.1.below hb2 HP1.out.1.lt
    have b6 := HP1.out.2.1.below hb2 HP1.out.2.1.lt
    have HP2 := Lib.hid (And.intro b5 (And.intro b6 (HP1.out.2.2.trans (hb2.mono HP1.out.2.2.size))))
    clear d0 d1 d2 hb2 HP1
    obtain ⟨c0, c1, c2, _, _, _⟩ := b5.three
    obtain ⟨d0, d1, d2, _, _, _⟩ := b6.three
    clear b5 b6
    have HQ := Lib.hid (show parseR tm = ((m0, m1, m2), 0) from R.out.2.1)
    have HQN := Lib.hid (show parseR tn = ((n0, n1, n2), 0) from R.out.2.2.2)
    by_cases hmn : m0 = n0 ∧ m1 = n1 ∧ m2 = n2
    · obtain ⟨rfl, rfl, rfl⟩ := hmn
      obtain rfl : tm = tn := HE.out.1.symm.trans HE.out.2
      clear R
      all_goals
        go_wp2_with fail
        refine (parse_any ⟨tm.toArray⟩ (by show tm.length ≤ _; omega) _ (hT.below HP2.out.2.2).weeks (hT.below HP2.out.2.2).folds).mono ?_
        rintro e w3 ⟨rfl, hb3⟩
        simp only [HQ.out]
        unfold dayV
        have b5 := HP2.out.1.below hb3 HP2.out.1.lt
        have HP3 := Lib.hid (And.intro b5 (HP2.out.2.2.trans (hb3.mono HP2.out.2.2.size)))
        clear c0 c1 c2 d0 d1 d2 hb3 HP2
        obtain ⟨c0, c1, c2, _, _, _⟩ := b5.three
        have hlt := b5.lt
        clear b5
        go_wp2_with fail
        refine (check_any m0 m1 m2 _ (hT.kinds.below (HP3.out.2.alloc HP3.out.2.size _))).mono ?_
        rintro e w4 ⟨rfl, hb4⟩
        rw [HcM.out]
        have HB4 := Lib.hid ((HP3.out.2.alloc HP3.out.2.size _).trans (hb4.mono (HP3.out.2.alloc HP3.out.2.size _).size))
        clear hb4 HP3 c0 c1 c2
        go_wp2_with fail
        refine (works_any _ (hT.below HB4.out)).mono ?_
        rintro e w5 ⟨rfl, hb5⟩
        have HB5 := Lib.hid (HB4.out.trans (hb5.mono HB4.out.size))
        clear hb5 HB4
        go_wp2_with fail
        go_ret
        exact ⟨rfl, HB5.out⟩
    · have hst : ((⟨tm.toArray⟩ : ByteArray).toList == (⟨tn.toArray⟩ : ByteArray).toList) = false := beq_eq_false_iff_ne.2 (by
        rw [Lib.toList_data, Lib.toList_data]
        intro h
        have h : tm = tn := h
        have := HQ.out
        rw [h, HQN.out] at this
        injection this with h1 _
        injection h1 with h2 h3
        injection h3 with h4 h5
        exact hmn ⟨h2.symm, h4.symm, h5.symm⟩)
      have hst2 : (tm == tn) = false := by
        rw [Lib.toList_data, Lib.toList_data] at hst
        exact hst
      have hc : (m0 == n0) = false ∨ ((m0 == n0) = true ∧ (m1 == n1) = false) ∨ ((m0 == n0) = true ∧ (m1 == n1) = true ∧ (m2 == n2) = false) := by
        simp only [beq_iff_eq, beq_eq_false_iff_ne, ne_eq]
        omega
      clear hmn R
      rcases hc with h6 | ⟨h6, h7⟩ | ⟨h6, h7, h8⟩
      all_goals
        go_wp2_with fail
        refine (parse_any ⟨tm.toArray⟩ (by show tm.length ≤ _; omega) _ (hT.below HP2.out.2.2).weeks (hT.below HP2.out.2.2).folds).mono ?_
        rintro e w3 ⟨rfl, hb3⟩
        simp only [HQ.out]
        unfold dayV
        have b5 := HP2.out.1.below hb3 HP2.out.1.lt
        have HP3 := Lib.hid (And.intro b5 (HP2.out.2.2.trans (hb3.mono HP2.out.2.2.size)))
        clear c0 c1 c2 d0 d1 d2 hb3 HP2
        obtain ⟨c0, c1, c2, _, _, _⟩ := b5.three
        have hlt := b5.lt
        clear b5
        go_wp2_with fail
        refine (check_any m0 m1 m2 _ (hT.kinds.below (HP3.out.2.alloc HP3.out.2.size _))).mono ?_
        rintro e w4 ⟨rfl, hb4⟩
        rw [HcM.out]
        have HB4 := Lib.hid ((HP3.out.2.alloc HP3.out.2.size _).trans (hb4.mono (HP3.out.2.alloc HP3.out.2.size _).size))
        clear hb4 HP3 c0 c1 c2
        go_wp2_with fail
        refine (works_any _ (hT.below HB4.out)).mono ?_
        rintro e w5 ⟨rfl, hb5⟩
        have HB5 := Lib.hid (HB4.out.trans (hb5.mono HB4.out.size))
        clear hb5 HB4
        go_wp2_with fail
        go_ret
        exact ⟨rfl, HB5.out⟩
end Go.Proofs.YteikhjhamjohpaaDoor
