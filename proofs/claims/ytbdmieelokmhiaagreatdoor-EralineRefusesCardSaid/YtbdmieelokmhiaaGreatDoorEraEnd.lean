/-
  eraline.end: what it returns, or with what it panics.
-/
import Derived.Test.YtbdmieelokmhiaaGreatDoorEraA
import Derived.Test.YtbdmieelokmhiaaGreatDoorEraPlain
set_option linter.unusedVariables false
namespace Go.Proofs.YtbdmieelokmhiaaGreatDoor
open Go.RowKit

/-- the listed variables, as the walks of eras ask for them -/
structure ETabs (w : World) : Prop where
  kinds : Kinds w
  weeks : Weeks w
  folds : Folds w
  months : Months w
  units : Units w
  pows : Pows w
  esyn : ErrSyn w
  eran : ErrRan w
theorem ETabs.below {w w' : World} (h : ETabs w) (hb : Below w.heap.size w w') : ETabs w' :=
  ⟨h.kinds.below hb, h.weeks.below hb, h.folds.below hb, h.months.below hb, h.units.below hb, h.pows.below hb, h.esyn.below hb, h.eran.below hb⟩

theorem endT_none (u : UntilP) (h : u.is = false) : endT u = [] := by unfold endT untilFs; rw [if_pos h]; rfl
set_option maxRecDepth 100000 in
set_option maxHeartbeats 1000000 in
theorem end_zero (w : World) :
    Calls Tryz.prog 66 #[.agg #[.bool false, .int .i64 0, .int .i64 0, .int .i64 0, .int .i64 0, .int .i64 0, .int .i64 0, .int .i64 0]] w fun e w' => e = .returned (.string ⟨#[]⟩) ∧ Below w.heap.size w w' := by
  go_enter Tryz.func66, Tryz.ntmps66
  go_wp2_with fail
  refine (must_yes _ _).mono ?_
  rintro e w3 ⟨rfl, rfl⟩
  go_wp2_with fail
  go_ret
  exact ⟨rfl, by go_grown⟩
set_option maxRecDepth 100000 in
set_option maxHeartbeats 1000000 in
theorem end_off (y m d1 d2 d3 h1 h2 : Int) (w : World) (h : ¬ (y = 0 ∧ m = 0 ∧ d1 = 0 ∧ d2 = 0 ∧ d3 = 0 ∧ h1 = 0 ∧ h2 = 0)) :
    Calls Tryz.prog 66 #[.agg #[.bool false, .int .i64 y, .int .i64 m, .int .i64 d1, .int .i64 d2, .int .i64 d3, .int .i64 h1, .int .i64 h2]] w fun e w' => e = Fails 2 ∧ Below w.heap.size w w' := by
  go_enter Tryz.func66, Tryz.ntmps66
  go_wp2_with fail
  all_goals
    refine (must_no _ _).mono ?_
    rintro e w3 ⟨rfl, rfl⟩
    exact ⟨rfl, rfl, by go_grown⟩

set_option maxRecDepth 100000 in
set_option maxHeartbeats 2000000 in
theorem end_on (y m d1 d2 d3 h1 h2 : Int) (w : World) (hT : ETabs w) (hr : UntilRight ⟨true, y, m, (d1, d2, d3), (h1, h2)⟩) :
    Calls Tryz.prog 66 #[.agg #[.bool true, .int .i64 y, .int .i64 m, .int .i64 d1, .int .i64 d2, .int .i64 d3, .int .i64 h1, .int .i64 h2]] w fun e w' => e = .returned (.string ⟨(endT ⟨true, y, m, (d1, d2, d3), (h1, h2)⟩).toArray⟩) ∧ Below w.heap.size w w' := by
  have HT := Lib.hid (fun W (hW : Below w.heap.size w W) => hT.below hW)
  have hy := of_decide_eq_true (hr.year rfl)
  obtain ⟨hm1, hm2⟩ := hr.mon rfl
  have hd : checkR d1 d2 d3 = 0 := if_pos (hr.day rfl)
  have hc : clockOk h1 h2 = true := hr.hour rfl
  have HNm := Lib.hid (show ∀ W, Calls Tryz.prog 96 #[.int .i64 y] W fun e w' => e = .returned (.bool true) ∧ W = w' from fun W => by have := enamed_any y W; rwa [hr.year rfl] at this)
  have HDc := Lib.hid (show ∀ W, Below w.heap.size w W → Calls Tryz.prog 116 #[.agg #[.int .i64 d1, .int .i64 d2, .int .i64 d3]] W fun e w' => e = .returned (.int .i64 0) ∧ Below W.heap.size W w' from fun W hW => by have := check_any d1 d2 d3 W (hT.below hW).kinds; rwa [hd] at this)
  have HCc := Lib.hid (show ∀ W, Calls Tryz.prog 117 #[.agg #[.int .i64 h1, .int .i64 h2]] W fun e w' => e = .returned (.int .i64 0) ∧ Below W.heap.size W w' from fun W => by have := clockCheck_any h1 h2 W; rwa [hc] at this)
  have HDp := Lib.hid (show ∀ W, Below w.heap.size w W → Calls Tryz.prog 121 #[.agg #[.int .i64 d1, .int .i64 d2, .int .i64 d3]] W fun e w' => e = .returned (.tuple #[.string ⟨(dayText d1 d2 d3).toArray⟩, .int .i64 0]) ∧ Below W.heap.size W w' from fun W hW => by
    have := print_any d1 d2 d3 W (hT.below hW).kinds (hT.below hW).weeks
    rwa [show printR d1 d2 d3 = (dayText d1 d2 d3, 0) from if_pos (hr.day rfl)] at this)
  have HCp := Lib.hid (show ∀ W, Below w.heap.size w W → Calls Tryz.prog 120 #[.agg #[.int .i64 h1, .int .i64 h2]] W fun e w' => e = .returned (.tuple #[.string ⟨(clockT h1 h2).toArray⟩, .int .i64 0]) ∧ Below W.heap.size W w' from fun W hW => by
    have := clockPrint_any h1 h2 W (hT.below hW).pows
    rwa [show clockPrintR h1 h2 = (clockT h1 h2, 0) from if_pos hc] at this)
  have HMt := Lib.hid (show ∀ W, Below w.heap.size w W → Calls Tryz.prog 122 #[.int .i64 m] W fun e w' => e = .returned (.string ⟨(monthT m).toArray⟩) ∧ Below W.heap.size W w' from fun W hW => monthText_any m W (hT.below hW).months (by simp only at hm1; omega) (by simp only at hm2; omega))
  have HIt := Lib.hid (show ∀ W, Below w.heap.size w W → Calls Tryz.prog 95 #[.int .i64 y] W fun e w' => e = .returned (.string ⟨(Lib.itoa y).toArray⟩) ∧ Below W.heap.size W w' from fun W hW => itoa_any y W (hT.below hW).pows (by simp only at hy; omega) (by simp only at hy; omega))
  have HLa := Lib.hid (show ∀ W, Calls Tryz.prog 118 #[.agg #[.bool true, .int .i64 y, .int .i64 m, .int .i64 d1, .int .i64 d2, .int .i64 d3, .int .i64 h1, .int .i64 h2]] W fun e w' => e = .returned (.int .i64 (lastN ⟨true, y, m, (d1, d2, d3), (h1, h2)⟩ : Int)) ∧ Below W.heap.size W w' from fun W => last_any ⟨true, y, m, (d1, d2, d3), (h1, h2)⟩ W)
  have hlN := lastN_le ⟨true, y, m, (d1, d2, d3), (h1, h2)⟩
  have HE := Lib.hid (show endT ⟨true, y, m, (d1, d2, d3), (h1, h2)⟩ = 32 :: (Lib.itoa y ++ ((if 1 ≤ lastN ⟨true, y, m, (d1, d2, d3), (h1, h2)⟩ then 32 :: monthT m else []) ++ ((if 2 ≤ lastN ⟨true, y, m, (d1, d2, d3), (h1, h2)⟩ then 32 :: dayText d1 d2 d3 else []) ++ (if 3 ≤ lastN ⟨true, y, m, (d1, d2, d3), (h1, h2)⟩ then 32 :: clockT h1 h2 else [])))) by
    unfold endT untilFs
    rw [if_neg (by simp)]
    simp only [List.flatMap_append, List.flatMap_cons, List.flatMap_nil, List.append_nil]
    (repeat' split) <;> simp)
  have hl0 := (year_plain (hr.year rfl)).2
  have hl1 : (monthT m).length ≤ 30 := by have := monthT_len m; omega
  have hl2 : (dayText d1 d2 d3).length ≤ 30 := by have := (day_back (hr.day rfl)).2.2; simp only at this; omega
  have hl3 : (clockT h1 h2).length ≤ 30 := by have := clock_len hc; omega
  simp only at hl0
  generalize lastN ⟨true, y, m, (d1, d2, d3), (h1, h2)⟩ = n at *
  generalize endT ⟨true, y, m, (d1, d2, d3), (h1, h2)⟩ = T at *
  generalize Lib.itoa y = t0 at *
  generalize monthT m = t1 at *
  generalize dayText d1 d2 d3 = t2 at *
  generalize clockT h1 h2 = t3 at *
  simp only at hm1 hm2
  have hB0 := (Below.refl w.heap.size w).alloc (Nat.le_refl _) (.cells #[.bool true, .int .i64 y, .int .i64 m, .int .i64 d1, .int .i64 d2, .int .i64 d3, .int .i64 h1, .int .i64 h2] 29)
  have HB0 := Lib.hid (And.intro (Blk.new' w 29 #[.bool true, .int .i64 y, .int .i64 m, .int .i64 d1, .int .i64 d2, .int .i64 d3, .int .i64 h1, .int .i64 h2] rfl) hB0)
  clear hT hr hy hd hc hB0
  go_enter Tryz.func66, Tryz.ntmps66
  go_wp2_with fail
  refine (HNm.out _).mono ?_
  rintro e w1 ⟨rfl, rfl⟩
  go_wp2_with fail
  refine (HDc.out _ HB0.out.2).mono ?_
  rintro e w1 ⟨rfl, hb1⟩
  have HB1 := Lib.hid (And.intro (HB0.out.1.below hb1 HB0.out.1.lt) (HB0.out.2.trans (hb1.mono HB0.out.2.size)))
  clear hb1 HB0 HDc HNm
  obtain ⟨q0, q1, q2, q3, q4, q5, q6, q7⟩ : w1.cell? ⟨w.heap.size, 0, none⟩ = some (.bool true) ∧ w1.cell? ⟨w.heap.size, 1, none⟩ = some (.int .i64 y) ∧ w1.cell? ⟨w.heap.size, 2, none⟩ = some (.int .i64 m) ∧ w1.cell? ⟨w.heap.size, 3, none⟩ = some (.int .i64 d1) ∧ w1.cell? ⟨w.heap.size, 4, none⟩ = some (.int .i64 d2) ∧ w1.cell? ⟨w.heap.size, 5, none⟩ = some (.int .i64 d3) ∧ w1.cell? ⟨w.heap.size, 6, none⟩ = some (.int .i64 h1) ∧ w1.cell? ⟨w.heap.size, 7, none⟩ = some (.int .i64 h2) := ⟨HB1.out.1.cell_ rfl, HB1.out.1.cell_ rfl, HB1.out.1.cell_ rfl, HB1.out.1.cell_ rfl, HB1.out.1.cell_ rfl, HB1.out.1.cell_ rfl, HB1.out.1.cell_ rfl, HB1.out.1.cell_ rfl⟩
  go_wp2_with fail
  refine (HCc.out _).mono ?_
  rintro e w2 ⟨rfl, hb2⟩
  have HB2 := Lib.hid (And.intro (HB1.out.1.below hb2 HB1.out.1.lt) (HB1.out.2.trans (hb2.mono HB1.out.2.size)))
  clear hb2 HB1 HCc q0 q1 q2 q3 q4 q5 q6 q7
  obtain ⟨q0, q1, q2, q3, q4, q5, q6, q7⟩ : w2.cell? ⟨w.heap.size, 0, none⟩ = some (.bool true) ∧ w2.cell? ⟨w.heap.size, 1, none⟩ = some (.int .i64 y) ∧ w2.cell? ⟨w.heap.size, 2, none⟩ = some (.int .i64 m) ∧ w2.cell? ⟨w.heap.size, 3, none⟩ = some (.int .i64 d1) ∧ w2.cell? ⟨w.heap.size, 4, none⟩ = some (.int .i64 d2) ∧ w2.cell? ⟨w.heap.size, 5, none⟩ = some (.int .i64 d3) ∧ w2.cell? ⟨w.heap.size, 6, none⟩ = some (.int .i64 h1) ∧ w2.cell? ⟨w.heap.size, 7, none⟩ = some (.int .i64 h2) := ⟨HB2.out.1.cell_ rfl, HB2.out.1.cell_ rfl, HB2.out.1.cell_ rfl, HB2.out.1.cell_ rfl, HB2.out.1.cell_ rfl, HB2.out.1.cell_ rfl, HB2.out.1.cell_ rfl, HB2.out.1.cell_ rfl⟩
  go_wp2_with fail
  refine (must_yes _ _).mono ?_
  rintro e w3 ⟨rfl, rfl⟩
  go_wp2_with fail
  refine (HLa.out _).mono ?_
  rintro e w3 ⟨rfl, hb3⟩
  have HB3 := Lib.hid (And.intro (HB2.out.1.below hb3 HB2.out.1.lt) (HB2.out.2.trans (hb3.mono HB2.out.2.size)))
  clear hb3 HB2 HLa q0 q1 q2 q3 q4 q5 q6 q7
  -- the switch
  rcases (by omega : n = 3 ∨ n = 2 ∨ n = 1 ∨ n = 0) with rfl | rfl | rfl | rfl
  · have HEE := Lib.hid (by simpa using HE.out)
    clear HE hlN
    obtain ⟨q0, q1, q2, q3, q4, q5, q6, q7⟩ : w3.cell? ⟨w.heap.size, 0, none⟩ = some (.bool true) ∧ w3.cell? ⟨w.heap.size, 1, none⟩ = some (.int .i64 y) ∧ w3.cell? ⟨w.heap.size, 2, none⟩ = some (.int .i64 m) ∧ w3.cell? ⟨w.heap.size, 3, none⟩ = some (.int .i64 d1) ∧ w3.cell? ⟨w.heap.size, 4, none⟩ = some (.int .i64 d2) ∧ w3.cell? ⟨w.heap.size, 5, none⟩ = some (.int .i64 d3) ∧ w3.cell? ⟨w.heap.size, 6, none⟩ = some (.int .i64 h1) ∧ w3.cell? ⟨w.heap.size, 7, none⟩ = some (.int .i64 h2) := ⟨HB3.out.1.cell_ rfl, HB3.out.1.cell_ rfl, HB3.out.1.cell_ rfl, HB3.out.1.cell_ rfl, HB3.out.1.cell_ rfl, HB3.out.1.cell_ rfl, HB3.out.1.cell_ rfl, HB3.out.1.cell_ rfl⟩
    go_wp2_with fail
    refine (HCp.out _ HB3.out.2).mono ?_
    rintro e w4 ⟨rfl, hb⟩
    have HB4 := Lib.hid (And.intro (HB3.out.1.below hb HB3.out.1.lt) (HB3.out.2.trans (hb.mono HB3.out.2.size)))
    clear hb HB3 HCp q0 q1 q2 q3 q4 q5 q6 q7
    go_wp2_with fail
    refine (needStr_ok _ _).mono ?_
    rintro e w9 ⟨rfl, rfl⟩
    obtain ⟨q0, q1, q2, q3, q4, q5, q6, q7⟩ : w4.cell? ⟨w.heap.size, 0, none⟩ = some (.bool true) ∧ w4.cell? ⟨w.heap.size, 1, none⟩ = some (.int .i64 y) ∧ w4.cell? ⟨w.heap.size, 2, none⟩ = some (.int .i64 m) ∧ w4.cell? ⟨w.heap.size, 3, none⟩ = some (.int .i64 d1) ∧ w4.cell? ⟨w.heap.size, 4, none⟩ = some (.int .i64 d2) ∧ w4.cell? ⟨w.heap.size, 5, none⟩ = some (.int .i64 d3) ∧ w4.cell? ⟨w.heap.size, 6, none⟩ = some (.int .i64 h1) ∧ w4.cell? ⟨w.heap.size, 7, none⟩ = some (.int .i64 h2) := ⟨HB4.out.1.cell_ rfl, HB4.out.1.cell_ rfl, HB4.out.1.cell_ rfl, HB4.out.1.cell_ rfl, HB4.out.1.cell_ rfl, HB4.out.1.cell_ rfl, HB4.out.1.cell_ rfl, HB4.out.1.cell_ rfl⟩
    go_wp2_with fail
    refine (HDp.out _ HB4.out.2).mono ?_
    rintro e w5 ⟨rfl, hb⟩
    have HB5 := Lib.hid (And.intro (HB4.out.1.below hb HB4.out.1.lt) (HB4.out.2.trans (hb.mono HB4.out.2.size)))
    clear hb HB4 HDp q0 q1 q2 q3 q4 q5 q6 q7
    go_wp2_with fail
    refine (needStr_ok _ _).mono ?_
    rintro e w9 ⟨rfl, rfl⟩
    obtain ⟨q0, q1, q2, q3, q4, q5, q6, q7⟩ : w5.cell? ⟨w.heap.size, 0, none⟩ = some (.bool true) ∧ w5.cell? ⟨w.heap.size, 1, none⟩ = some (.int .i64 y) ∧ w5.cell? ⟨w.heap.size, 2, none⟩ = some (.int .i64 m) ∧ w5.cell? ⟨w.heap.size, 3, none⟩ = some (.int .i64 d1) ∧ w5.cell? ⟨w.heap.size, 4, none⟩ = some (.int .i64 d2) ∧ w5.cell? ⟨w.heap.size, 5, none⟩ = some (.int .i64 d3) ∧ w5.cell? ⟨w.heap.size, 6, none⟩ = some (.int .i64 h1) ∧ w5.cell? ⟨w.heap.size, 7, none⟩ = some (.int .i64 h2) := ⟨HB5.out.1.cell_ rfl, HB5.out.1.cell_ rfl, HB5.out.1.cell_ rfl, HB5.out.1.cell_ rfl, HB5.out.1.cell_ rfl, HB5.out.1.cell_ rfl, HB5.out.1.cell_ rfl, HB5.out.1.cell_ rfl⟩
    go_wp2_with fail
    refine (HMt.out _ HB5.out.2).mono ?_
    rintro e w6 ⟨rfl, hb⟩
    have HB6 := Lib.hid (And.intro (HB5.out.1.below hb HB5.out.1.lt) (HB5.out.2.trans (hb.mono HB5.out.2.size)))
    clear hb HB5 HMt q0 q1 q2 q3 q4 q5 q6 q7
    obtain ⟨q0, q1, q2, q3, q4, q5, q6, q7⟩ : w6.cell? ⟨w.heap.size, 0, none⟩ = some (.bool true) ∧ w6.cell? ⟨w.heap.size, 1, none⟩ = some (.int .i64 y) ∧ w6.cell? ⟨w.heap.size, 2, none⟩ = some (.int .i64 m) ∧ w6.cell? ⟨w.heap.size, 3, none⟩ = some (.int .i64 d1) ∧ w6.cell? ⟨w.heap.size, 4, none⟩ = some (.int .i64 d2) ∧ w6.cell? ⟨w.heap.size, 5, none⟩ = some (.int .i64 d3) ∧ w6.cell? ⟨w.heap.size, 6, none⟩ = some (.int .i64 h1) ∧ w6.cell? ⟨w.heap.size, 7, none⟩ = some (.int .i64 h2) := ⟨HB6.out.1.cell_ rfl, HB6.out.1.cell_ rfl, HB6.out.1.cell_ rfl, HB6.out.1.cell_ rfl, HB6.out.1.cell_ rfl, HB6.out.1.cell_ rfl, HB6.out.1.cell_ rfl, HB6.out.1.cell_ rfl⟩
    go_wp2_with fail
    refine (HIt.out _ HB6.out.2).mono ?_
    rintro e w7 ⟨rfl, hb⟩
    have HB7 := Lib.hid (And.intro (HB6.out.1.below hb HB6.out.1.lt) (HB6.out.2.trans (hb.mono HB6.out.2.size)))
    clear hb HB6 HIt q0 q1 q2 q3 q4 q5 q6 q7
    go_wp2_with fail
    go_ret
    exact ⟨by rw [HEE.out]; exact congrArg Ending.returned (congrArg Value.string (by apply ByteArray.ext; simp)), HB7.out.2⟩
  · have HEE := Lib.hid (by simpa using HE.out)
    clear HE hlN
    obtain ⟨q0, q1, q2, q3, q4, q5, q6, q7⟩ : w3.cell? ⟨w.heap.size, 0, none⟩ = some (.bool true) ∧ w3.cell? ⟨w.heap.size, 1, none⟩ = some (.int .i64 y) ∧ w3.cell? ⟨w.heap.size, 2, none⟩ = some (.int .i64 m) ∧ w3.cell? ⟨w.heap.size, 3, none⟩ = some (.int .i64 d1) ∧ w3.cell? ⟨w.heap.size, 4, none⟩ = some (.int .i64 d2) ∧ w3.cell? ⟨w.heap.size, 5, none⟩ = some (.int .i64 d3) ∧ w3.cell? ⟨w.heap.size, 6, none⟩ = some (.int .i64 h1) ∧ w3.cell? ⟨w.heap.size, 7, none⟩ = some (.int .i64 h2) := ⟨HB3.out.1.cell_ rfl, HB3.out.1.cell_ rfl, HB3.out.1.cell_ rfl, HB3.out.1.cell_ rfl, HB3.out.1.cell_ rfl, HB3.out.1.cell_ rfl, HB3.out.1.cell_ rfl, HB3.out.1.cell_ rfl⟩
    go_wp2_with fail
    refine (HDp.out _ HB3.out.2).mono ?_
    rintro e w4 ⟨rfl, hb⟩
    have HB4 := Lib.hid (And.intro (HB3.out.1.below hb HB3.out.1.lt) (HB3.out.2.trans (hb.mono HB3.out.2.size)))
    clear hb HB3 HDp q0 q1 q2 q3 q4 q5 q6 q7
    go_wp2_with fail
    refine (needStr_ok _ _).mono ?_
    rintro e w9 ⟨rfl, rfl⟩
    obtain ⟨q0, q1, q2, q3, q4, q5, q6, q7⟩ : w4.cell? ⟨w.heap.size, 0, none⟩ = some (.bool true) ∧ w4.cell? ⟨w.heap.size, 1, none⟩ = some (.int .i64 y) ∧ w4.cell? ⟨w.heap.size, 2, none⟩ = some (.int .i64 m) ∧ w4.cell? ⟨w.heap.size, 3, none⟩ = some (.int .i64 d1) ∧ w4.cell? ⟨w.heap.size, 4, none⟩ = some (.int .i64 d2) ∧ w4.cell? ⟨w.heap.size, 5, none⟩ = some (.int .i64 d3) ∧ w4.cell? ⟨w.heap.size, 6, none⟩ = some (.int .i64 h1) ∧ w4.cell? ⟨w.heap.size, 7, none⟩ = some (.int .i64 h2) := ⟨HB4.out.1.cell_ rfl, HB4.out.1.cell_ rfl, HB4.out.1.cell_ rfl, HB4.out.1.cell_ rfl, HB4.out.1.cell_ rfl, HB4.out.1.cell_ rfl, HB4.out.1.cell_ rfl, HB4.out.1.cell_ rfl⟩
    go_wp2_with fail
    refine (HMt.out _ HB4.out.2).mono ?_
    rintro e w5 ⟨rfl, hb⟩
    have HB5 := Lib.hid (And.intro (HB4.out.1.below hb HB4.out.1.lt) (HB4.out.2.trans (hb.mono HB4.out.2.size)))
    clear hb HB4 HMt q0 q1 q2 q3 q4 q5 q6 q7
    obtain ⟨q0, q1, q2, q3, q4, q5, q6, q7⟩ : w5.cell? ⟨w.heap.size, 0, none⟩ = some (.bool true) ∧ w5.cell? ⟨w.heap.size, 1, none⟩ = some (.int .i64 y) ∧ w5.cell? ⟨w.heap.size, 2, none⟩ = some (.int .i64 m) ∧ w5.cell? ⟨w.heap.size, 3, none⟩ = some (.int .i64 d1) ∧ w5.cell? ⟨w.heap.size, 4, none⟩ = some (.int .i64 d2) ∧ w5.cell? ⟨w.heap.size, 5, none⟩ = some (.int .i64 d3) ∧ w5.cell? ⟨w.heap.size, 6, none⟩ = some (.int .i64 h1) ∧ w5.cell? ⟨w.heap.size, 7, none⟩ = some (.int .i64 h2) := ⟨HB5.out.1.cell_ rfl, HB5.out.1.cell_ rfl, HB5.out.1.cell_ rfl, HB5.out.1.cell_ rfl, HB5.out.1.cell_ rfl, HB5.out.1.cell_ rfl, HB5.out.1.cell_ rfl, HB5.out.1.cell_ rfl⟩
    go_wp2_with fail
    refine (HIt.out _ HB5.out.2).mono ?_
    rintro e w6 ⟨rfl, hb⟩
    have HB6 := Lib.hid (And.intro (HB5.out.1.below hb HB5.out.1.lt) (HB5.out.2.trans (hb.mono HB5.out.2.size)))
    clear hb HB5 HIt q0 q1 q2 q3 q4 q5 q6 q7
    go_wp2_with fail
    go_ret
    exact ⟨by rw [HEE.out]; exact congrArg Ending.returned (congrArg Value.string (by apply ByteArray.ext; simp)), HB6.out.2⟩
  · have HEE := Lib.hid (by simpa using HE.out)
    clear HE hlN
    obtain ⟨q0, q1, q2, q3, q4, q5, q6, q7⟩ : w3.cell? ⟨w.heap.size, 0, none⟩ = some (.bool true) ∧ w3.cell? ⟨w.heap.size, 1, none⟩ = some (.int .i64 y) ∧ w3.cell? ⟨w.heap.size, 2, none⟩ = some (.int .i64 m) ∧ w3.cell? ⟨w.heap.size, 3, none⟩ = some (.int .i64 d1) ∧ w3.cell? ⟨w.heap.size, 4, none⟩ = some (.int .i64 d2) ∧ w3.cell? ⟨w.heap.size, 5, none⟩ = some (.int .i64 d3) ∧ w3.cell? ⟨w.heap.size, 6, none⟩ = some (.int .i64 h1) ∧ w3.cell? ⟨w.heap.size, 7, none⟩ = some (.int .i64 h2) := ⟨HB3.out.1.cell_ rfl, HB3.out.1.cell_ rfl, HB3.out.1.cell_ rfl, HB3.out.1.cell_ rfl, HB3.out.1.cell_ rfl, HB3.out.1.cell_ rfl, HB3.out.1.cell_ rfl, HB3.out.1.cell_ rfl⟩
    go_wp2_with fail
    refine (HMt.out _ HB3.out.2).mono ?_
    rintro e w4 ⟨rfl, hb⟩
    have HB4 := Lib.hid (And.intro (HB3.out.1.below hb HB3.out.1.lt) (HB3.out.2.trans (hb.mono HB3.out.2.size)))
    clear hb HB3 HMt q0 q1 q2 q3 q4 q5 q6 q7
    obtain ⟨q0, q1, q2, q3, q4, q5, q6, q7⟩ : w4.cell? ⟨w.heap.size, 0, none⟩ = some (.bool true) ∧ w4.cell? ⟨w.heap.size, 1, none⟩ = some (.int .i64 y) ∧ w4.cell? ⟨w.heap.size, 2, none⟩ = some (.int .i64 m) ∧ w4.cell? ⟨w.heap.size, 3, none⟩ = some (.int .i64 d1) ∧ w4.cell? ⟨w.heap.size, 4, none⟩ = some (.int .i64 d2) ∧ w4.cell? ⟨w.heap.size, 5, none⟩ = some (.int .i64 d3) ∧ w4.cell? ⟨w.heap.size, 6, none⟩ = some (.int .i64 h1) ∧ w4.cell? ⟨w.heap.size, 7, none⟩ = some (.int .i64 h2) := ⟨HB4.out.1.cell_ rfl, HB4.out.1.cell_ rfl, HB4.out.1.cell_ rfl, HB4.out.1.cell_ rfl, HB4.out.1.cell_ rfl, HB4.out.1.cell_ rfl, HB4.out.1.cell_ rfl, HB4.out.1.cell_ rfl⟩
    go_wp2_with fail
    refine (HIt.out _ HB4.out.2).mono ?_
    rintro e w5 ⟨rfl, hb⟩
    have HB5 := Lib.hid (And.intro (HB4.out.1.below hb HB4.out.1.lt) (HB4.out.2.trans (hb.mono HB4.out.2.size)))
    clear hb HB4 HIt q0 q1 q2 q3 q4 q5 q6 q7
    go_wp2_with fail
    go_ret
    exact ⟨by rw [HEE.out]; exact congrArg Ending.returned (congrArg Value.string (by apply ByteArray.ext; simp)), HB5.out.2⟩
  · have HEE := Lib.hid (by simpa using HE.out)
    clear HE hlN
    obtain ⟨q0, q1, q2, q3, q4, q5, q6, q7⟩ : w3.cell? ⟨w.heap.size, 0, none⟩ = some (.bool true) ∧ w3.cell? ⟨w.heap.size, 1, none⟩ = some (.int .i64 y) ∧ w3.cell? ⟨w.heap.size, 2, none⟩ = some (.int .i64 m) ∧ w3.cell? ⟨w.heap.size, 3, none⟩ = some (.int .i64 d1) ∧ w3.cell? ⟨w.heap.size, 4, none⟩ = some (.int .i64 d2) ∧ w3.cell? ⟨w.heap.size, 5, none⟩ = some (.int .i64 d3) ∧ w3.cell? ⟨w.heap.size, 6, none⟩ = some (.int .i64 h1) ∧ w3.cell? ⟨w.heap.size, 7, none⟩ = some (.int .i64 h2) := ⟨HB3.out.1.cell_ rfl, HB3.out.1.cell_ rfl, HB3.out.1.cell_ rfl, HB3.out.1.cell_ rfl, HB3.out.1.cell_ rfl, HB3.out.1.cell_ rfl, HB3.out.1.cell_ rfl, HB3.out.1.cell_ rfl⟩
    go_wp2_with fail
    refine (HIt.out _ HB3.out.2).mono ?_
    rintro e w4 ⟨rfl, hb⟩
    have HB4 := Lib.hid (And.intro (HB3.out.1.below hb HB3.out.1.lt) (HB3.out.2.trans (hb.mono HB3.out.2.size)))
    clear hb HB3 HIt q0 q1 q2 q3 q4 q5 q6 q7
    go_wp2_with fail
    go_ret
    exact ⟨by rw [HEE.out]; exact congrArg Ending.returned (congrArg Value.string (by apply ByteArray.ext; simp)), HB4.out.2⟩

set_option maxHeartbeats 1000000 in
theorem end_no (y m d1 d2 d3 h1 h2 : Int) (w : World) (hT : ETabs w) (hr : ¬ UntilRight ⟨true, y, m, (d1, d2, d3), (h1, h2)⟩) :
    Calls Tryz.prog 66 #[.agg #[.bool true, .int .i64 y, .int .i64 m, .int .i64 d1, .int .i64 d2, .int .i64 d3, .int .i64 h1, .int .i64 h2]] w fun e w' => e = Fails 2 ∧ Below w.heap.size w w' := by
  have HDc := Lib.hid (fun W (hW : Below w.heap.size w W) => check_any d1 d2 d3 W (hT.below hW).kinds)
  have HCc := Lib.hid (fun W => clockCheck_any h1 h2 W)
  have hB0 := (Below.refl w.heap.size w).alloc (Nat.le_refl _) (.cells #[.bool true, .int .i64 y, .int .i64 m, .int .i64 d1, .int .i64 d2, .int .i64 d3, .int .i64 h1, .int .i64 h2] 29)
  have HB0 := Lib.hid (And.intro (Blk.new' w 29 #[.bool true, .int .i64 y, .int .i64 m, .int .i64 d1, .int .i64 d2, .int .i64 d3, .int .i64 h1, .int .i64 h2] rfl) hB0)
  clear hT hB0
  have HNm := Lib.hid (fun W => enamed_any y W)
  by_cases hy : namedB y = false
  · rw [hy] at HNm
    clear hy hr HDc HCc
    go_enter Tryz.func66, Tryz.ntmps66
    go_wp2_with fail
    refine (HNm.out _).mono ?_
    rintro e w1 ⟨rfl, rfl⟩
    go_wp2_with fail
    refine (must_no _ _).mono ?_
    rintro e w3 ⟨rfl, rfl⟩
    exact ⟨rfl, rfl, HB0.out.2⟩
  have hy2 : namedB y = true := by simpa using hy
  rw [hy2] at HNm
  by_cases hm : 1 ≤ m ∧ m ≤ 12
  case neg =>
    rcases (by omega : m < 1 ∨ (¬ m < 1 ∧ 12 < m)) with h | ⟨h, h'⟩
    all_goals
      clear hy hy2 hr HDc HCc hm
      go_enter Tryz.func66, Tryz.ntmps66
      go_wp2_with fail
      refine (HNm.out _).mono ?_
      rintro e w1 ⟨rfl, rfl⟩
      go_wp2_with fail
      refine (must_no _ _).mono ?_
      rintro e w3 ⟨rfl, rfl⟩
      exact ⟨rfl, rfl, HB0.out.2⟩
  obtain ⟨hm1, hm2⟩ := hm
  by_cases hd : rightDay d1 d2 d3 = true
  case neg =>
    replace HDc := Lib.hid (show ∀ W, Below w.heap.size w W → Calls Tryz.prog 116 #[.agg #[.int .i64 d1, .int .i64 d2, .int .i64 d3]] W fun e w' => e = .returned (.int .i64 2) ∧ Below W.heap.size W w' from fun W hW => by have := HDc.out W hW; rwa [show checkR d1 d2 d3 = 2 from if_neg hd] at this)
    clear hy hy2 hr HCc hd
    go_enter Tryz.func66, Tryz.ntmps66
    go_wp2_with fail
    refine (HNm.out _).mono ?_
    rintro e w1 ⟨rfl, rfl⟩
    go_wp2_with fail
    refine (HDc.out _ HB0.out.2).mono ?_
    rintro e w1 ⟨rfl, hb1⟩
    have HB1 := Lib.hid (HB0.out.2.trans (hb1.mono HB0.out.2.size))
    clear hb1 HB0
    go_wp2_with fail
    refine (must_no _ _).mono ?_
    rintro e w3 ⟨rfl, rfl⟩
    exact ⟨rfl, rfl, HB1.out⟩
  replace HDc := Lib.hid (show ∀ W, Below w.heap.size w W → Calls Tryz.prog 116 #[.agg #[.int .i64 d1, .int .i64 d2, .int .i64 d3]] W fun e w' => e = .returned (.int .i64 0) ∧ Below W.heap.size W w' from fun W hW => by have := HDc.out W hW; rwa [show checkR d1 d2 d3 = 0 from if_pos hd] at this)
  have hc : clockOk h1 h2 = false := by
    cases hc : clockOk h1 h2 with
    | false => rfl
    | true => exact absurd ⟨(fun h => by cases h), fun _ => hy2, fun _ => ⟨hm1, hm2⟩, fun _ => hd, fun _ => hc⟩ hr
  replace HCc := Lib.hid (show ∀ W, Calls Tryz.prog 117 #[.agg #[.int .i64 h1, .int .i64 h2]] W fun e w' => e = .returned (.int .i64 2) ∧ Below W.heap.size W w' from fun W => by have := HCc.out W; rwa [hc] at this)
  clear hy hy2 hr hd hc
  go_enter Tryz.func66, Tryz.ntmps66
  go_wp2_with fail
  refine (HNm.out _).mono ?_
  rintro e w1 ⟨rfl, rfl⟩
  go_wp2_with fail
  refine (HDc.out _ HB0.out.2).mono ?_
  rintro e w1 ⟨rfl, hb1⟩
  have HB1 := Lib.hid (And.intro (HB0.out.1.below hb1 HB0.out.1.lt) (HB0.out.2.trans (hb1.mono HB0.out.2.size)))
  clear hb1 HB0
  obtain ⟨q0, q1, q2, q3, q4, q5, q6, q7⟩ : w1.cell? ⟨w.heap.size, 0, none⟩ = some (.bool true) ∧ w1.cell? ⟨w.heap.size, 1, none⟩ = some (.int .i64 y) ∧ w1.cell? ⟨w.heap.size, 2, none⟩ = some (.int .i64 m) ∧ w1.cell? ⟨w.heap.size, 3, none⟩ = some (.int .i64 d1) ∧ w1.cell? ⟨w.heap.size, 4, none⟩ = some (.int .i64 d2) ∧ w1.cell? ⟨w.heap.size, 5, none⟩ = some (.int .i64 d3) ∧ w1.cell? ⟨w.heap.size, 6, none⟩ = some (.int .i64 h1) ∧ w1.cell? ⟨w.heap.size, 7, none⟩ = some (.int .i64 h2) := ⟨HB1.out.1.cell_ rfl, HB1.out.1.cell_ rfl, HB1.out.1.cell_ rfl, HB1.out.1.cell_ rfl, HB1.out.1.cell_ rfl, HB1.out.1.cell_ rfl, HB1.out.1.cell_ rfl, HB1.out.1.cell_ rfl⟩
  go_wp2_with fail
  refine (HCc.out _).mono ?_
  rintro e w2 ⟨rfl, hb2⟩
  have HB2 := Lib.hid (HB1.out.2.trans (hb2.mono HB1.out.2.size))
  clear hb2 HB1 q0 q1 q2 q3 q4 q5 q6 q7
  go_wp2_with fail
  refine (must_no _ _).mono ?_
  rintro e w3 ⟨rfl, rfl⟩
  exact ⟨rfl, rfl, HB2.out⟩

theorem untilRight_off (y m d1 d2 d3 h1 h2 : Int) : UntilRight ⟨false, y, m, (d1, d2, d3), (h1, h2)⟩ ↔ (y = 0 ∧ m = 0 ∧ d1 = 0 ∧ d2 = 0 ∧ d3 = 0 ∧ h1 = 0 ∧ h2 = 0) := by
  constructor
  · intro h
    have := h.no rfl
    cases this
    exact ⟨rfl, rfl, rfl, rfl, rfl, rfl, rfl⟩
  · rintro ⟨rfl, rfl, rfl, rfl, rfl, rfl, rfl⟩
    exact ⟨fun _ => rfl, (fun h => by cases h), (fun h => by cases h), (fun h => by cases h), (fun h => by cases h)⟩
theorem end_yes (u : UntilP) (w : World) (hT : ETabs w) (hr : UntilRight u) : Calls Tryz.prog 66 #[.agg u.arr] w fun e w' => e = .returned (.string ⟨(endT u).toArray⟩) ∧ Below w.heap.size w w' := by
  obtain ⟨is, y, m, ⟨d1, d2, d3⟩, ⟨h1, h2⟩⟩ := u
  cases is
  · obtain ⟨rfl, rfl, rfl, rfl, rfl, rfl, rfl⟩ := (untilRight_off _ _ _ _ _ _ _).1 hr
    rw [endT_none _ rfl]
    exact end_zero w
  · exact end_on y m d1 d2 d3 h1 h2 w hT hr
theorem end_fail (u : UntilP) (w : World) (hT : ETabs w) (hr : ¬ UntilRight u) : Calls Tryz.prog 66 #[.agg u.arr] w fun e w' => e = Fails 2 ∧ Below w.heap.size w w' := by
  obtain ⟨is, y, m, ⟨d1, d2, d3⟩, ⟨h1, h2⟩⟩ := u
  cases is
  · exact end_off y m d1 d2 d3 h1 h2 w fun h => hr ((untilRight_off _ _ _ _ _ _ _).2 h)
  · exact end_no y m d1 d2 d3 h1 h2 w hT hr
end Go.Proofs.YtbdmieelokmhiaaGreatDoor
