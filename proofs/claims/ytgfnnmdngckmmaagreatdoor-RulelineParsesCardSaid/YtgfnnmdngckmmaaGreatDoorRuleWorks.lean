/-
  works of the law: the examples of the chapter hold.
-/
import Derived.Test.YtgfnnmdngckmmaaGreatDoorRuleLaw
import Derived.BigRegion
set_option linter.unusedVariables false
namespace Go.Proofs.YtgfnnmdngckmmaaGreatDoor
open Go.RowKit

theorem words_parse (l : List UInt8) (R : RuleP × Int) (hR : ruleR (wordsR l) = R) (w : World) (hT : RTabs w) (hs : l.length ≤ 1048576) :
    Calls Tryz.prog 16 #[.string ⟨l.toArray⟩] w fun e w' => (∃ v, e = .returned v ∧ Hid (Calls Tryz.prog 11 #[v] w' fun e w2 => e = .returned (.tuple #[ruleV R.1, .int .i64 R.2]) ∧ Below w'.heap.size w' w2)) ∧ Below w.heap.size w w' :=
  (words_row ⟨l.toArray⟩ w hs).mono fun e w' ⟨⟨g, cap, he, hcap, hg, hr, ho⟩, hb⟩ => by
    refine ⟨⟨_, he, Lib.hid ?_⟩, hb⟩
    rw [← hR]
    exact ruleParse_any g 0 _ cap (wordsR l) w' (hT.below hb) hr rfl fun x hx => Nat.le_trans (words_le _ x hx) hs

set_option maxRecDepth 100000 in
set_option maxHeartbeats 2000000 in
theorem rworks_any (w : World) (hT : RTabs w) :
    Calls Tryz.prog 10 #[] w fun e w' => e = .returned (.bool true) ∧ Below w.heap.size w w' := by
  have HE := Lib.hid (show ∀ W, Below w.heap.size w W → Calls Tryz.prog 16 #[.string ⟨#[69, 105, 114, 101, 32, 49, 57, 55, 50, 32, 109, 97, 120, 32, 45, 32, 77, 97, 114, 32, 83, 117, 110, 62, 61, 49, 53, 32, 50, 58, 48, 48, 117, 32, 48, 32, 45]⟩] W fun e w' => (∃ v, e = .returned v ∧ Hid (Calls Tryz.prog 11 #[v] w' fun e w2 => e = .returned (.tuple #[.agg #[.string ⟨#[69, 105, 114, 101]⟩, .int .i64 1972, .int .i64 1048576, .int .i64 3, .int .i64 3, .int .i64 0, .int .i64 15, .int .i64 7200, .int .i64 2, .int .i64 0, .string ⟨#[]⟩], .int .i64 0]) ∧ Below w'.heap.size w' w2)) ∧ Below W.heap.size W w' from fun W hW => words_parse eireS (eireP, 0) eire_is W (hT.below hW) (by decide))
  have HU := Lib.hid (show ∀ W, Below w.heap.size w W → Calls Tryz.prog 16 #[.string ⟨#[85, 83, 32, 49, 57, 49, 56, 32, 111, 32, 45, 32, 109, 97, 114, 99, 104, 32, 108, 97, 115, 116, 83, 117, 110, 32, 50, 58, 48, 48, 32, 49, 58, 48, 48, 32, 68]⟩] W fun e w' => (∃ v, e = .returned v ∧ Hid (Calls Tryz.prog 11 #[v] w' fun e w2 => e = .returned (.tuple #[.agg #[.string ⟨#[85, 83]⟩, .int .i64 1918, .int .i64 1918, .int .i64 3, .int .i64 2, .int .i64 0, .int .i64 0, .int .i64 7200, .int .i64 0, .int .i64 3600, .string ⟨#[68]⟩], .int .i64 0]) ∧ Below w'.heap.size w' w2)) ∧ Below W.heap.size W w' from fun W hW => words_parse usS (usP, 0) us_is W (hT.below hW) (by decide))
  have HP1 := Lib.hid (show ∀ W, Below w.heap.size w W → Calls Tryz.prog 13 #[.agg #[.string ⟨#[85, 83]⟩, .int .i64 1918, .int .i64 1918, .int .i64 3, .int .i64 2, .int .i64 0, .int .i64 0, .int .i64 7200, .int .i64 0, .int .i64 3600, .string ⟨#[68]⟩]] W fun e w' => e = .returned (.tuple #[.string ⟨#[82, 117, 108, 101, 32, 85, 83, 32, 49, 57, 49, 56, 32, 111, 110, 108, 121, 32, 45, 32, 77, 97, 114, 32, 108, 97, 115, 116, 83, 117, 110, 32, 50, 58, 48, 48, 32, 49, 58, 48, 48, 32, 68]⟩, .int .i64 0]) ∧ Below W.heap.size W w' from fun W hW => by have h := rulePrint_any usP W (hT.below hW) (by decide) (by decide); rw [us_line] at h; exact h)
  have HP2 := Lib.hid (show ∀ W, Below w.heap.size w W → Calls Tryz.prog 13 #[.agg #[.string ⟨#[85, 83]⟩, .int .i64 1849, .int .i64 1918, .int .i64 3, .int .i64 2, .int .i64 0, .int .i64 0, .int .i64 7200, .int .i64 0, .int .i64 3600, .string ⟨#[68]⟩]] W fun e w' => e = .returned (.tuple #[.string ⟨#[]⟩, .int .i64 2]) ∧ Below W.heap.size W w' from fun W hW => by have h := rulePrint_any { usP with frm := 1849 } W (hT.below hW) (by decide) (by decide); rw [us_bad] at h; exact h)
  have HP3 := Lib.hid (show ∀ W, Below w.heap.size w W → Calls Tryz.prog 13 #[.agg #[.string ⟨#[85, 83]⟩, .int .i64 1918, .int .i64 1918, .int .i64 3, .int .i64 2, .int .i64 0, .int .i64 0, .int .i64 7200, .int .i64 0, .int .i64 3600, .string ⟨#[45]⟩]] W fun e w' => e = .returned (.tuple #[.string ⟨#[]⟩, .int .i64 2]) ∧ Below W.heap.size W w' from fun W hW => by have h := rulePrint_any { usP with lett := [45] } W (hT.below hW) (by decide) (by decide); rw [us_other] at h; exact h)
  have HF0 := Lib.hid (show ∀ W, Below w.heap.size w W → Calls Tryz.prog 18 #[.string ⟨#[85, 83, 32, 49, 57, 49, 56, 32, 49, 57, 49, 57, 32, 120, 32, 77, 97, 114, 32, 49, 32, 48, 32, 48, 32, 83]⟩, .int .i64 5] W fun e w' => e = .returned (.bool true) ∧ Below W.heap.size W w' from fun W hW => fails_yes ⟨#[85, 83, 32, 49, 57, 49, 56, 32, 49, 57, 49, 57, 32, 120, 32, 77, 97, 114, 32, 49, 32, 48, 32, 48, 32, 83]⟩ 5 W (hT.below hW) (by decide) (by decide +kernel))
  have HF1 := Lib.hid (show ∀ W, Below w.heap.size w W → Calls Tryz.prog 18 #[.string ⟨#[85, 83, 32, 49, 57, 49, 56, 32, 49, 57, 49, 57, 32, 45, 32, 77, 97, 114, 32, 49, 32, 48, 32, 48]⟩, .int .i64 5] W fun e w' => e = .returned (.bool true) ∧ Below W.heap.size W w' from fun W hW => fails_yes ⟨#[85, 83, 32, 49, 57, 49, 56, 32, 49, 57, 49, 57, 32, 45, 32, 77, 97, 114, 32, 49, 32, 48, 32, 48]⟩ 5 W (hT.below hW) (by decide) (by decide +kernel))
  have HF2 := Lib.hid (show ∀ W, Below w.heap.size w W → Calls Tryz.prog 18 #[.string ⟨#[49, 120, 32, 49, 32, 109, 32, 45, 32, 70, 111, 111, 32, 49, 32, 48, 32, 48, 32, 83]⟩, .int .i64 9] W fun e w' => e = .returned (.bool true) ∧ Below W.heap.size W w' from fun W hW => fails_yes ⟨#[49, 120, 32, 49, 32, 109, 32, 45, 32, 70, 111, 111, 32, 49, 32, 48, 32, 48, 32, 83]⟩ 9 W (hT.below hW) (by decide) (by decide +kernel))
  have HF3 := Lib.hid (show ∀ W, Below w.heap.size w W → Calls Tryz.prog 18 #[.string ⟨#[85, 83, 32, 49, 32, 109, 32, 45, 32, 70, 111, 111, 32, 49, 32, 48, 32, 48, 32, 83]⟩, .int .i64 3] W fun e w' => e = .returned (.bool true) ∧ Below W.heap.size W w' from fun W hW => fails_yes ⟨#[85, 83, 32, 49, 32, 109, 32, 45, 32, 70, 111, 111, 32, 49, 32, 48, 32, 48, 32, 83]⟩ 3 W (hT.below hW) (by decide) (by decide +kernel))
  have HF4 := Lib.hid (show ∀ W, Below w.heap.size w W → Calls Tryz.prog 18 #[.string ⟨#[85, 83, 32, 49, 57, 49, 56, 32, 120, 32, 45, 32, 77, 97, 114, 32, 49, 32, 48, 32, 48, 32, 83]⟩, .int .i64 8] W fun e w' => e = .returned (.bool true) ∧ Below W.heap.size W w' from fun W hW => fails_yes ⟨#[85, 83, 32, 49, 57, 49, 56, 32, 120, 32, 45, 32, 77, 97, 114, 32, 49, 32, 48, 32, 48, 32, 83]⟩ 8 W (hT.below hW) (by decide) (by decide +kernel))
  have HF5 := Lib.hid (show ∀ W, Below w.heap.size w W → Calls Tryz.prog 18 #[.string ⟨#[85, 83, 32, 48, 49, 57, 49, 56, 32, 109, 32, 45, 32, 77, 97, 114, 32, 49, 32, 48, 32, 48, 32, 83]⟩, .int .i64 5] W fun e w' => e = .returned (.bool true) ∧ Below W.heap.size W w' from fun W hW => fails_yes ⟨#[85, 83, 32, 48, 49, 57, 49, 56, 32, 109, 32, 45, 32, 77, 97, 114, 32, 49, 32, 48, 32, 48, 32, 83]⟩ 5 W (hT.below hW) (by decide) (by decide +kernel))
  have HF6 := Lib.hid (show ∀ W, Below w.heap.size w W → Calls Tryz.prog 18 #[.string ⟨#[85, 83, 32, 49, 57, 49, 56, 32, 109, 32, 45, 32, 77, 97, 114, 32, 49, 32, 48, 32, 48, 32, 65, 66, 67, 68, 69]⟩, .int .i64 5] W fun e w' => e = .returned (.bool true) ∧ Below W.heap.size W w' from fun W hW => fails_yes ⟨#[85, 83, 32, 49, 57, 49, 56, 32, 109, 32, 45, 32, 77, 97, 114, 32, 49, 32, 48, 32, 48, 32, 65, 66, 67, 68, 69]⟩ 5 W (hT.below hW) (by decide) (by decide +kernel))
  clear hT
  have hb0 : Below w.heap.size w w := Below.refl _ _
  go_enter Tryz.func10, Tryz.ntmps10
  go_wp2_with fail
  refine (HE.out _ hb0).mono ?_
  rintro e w1 ⟨⟨v1, rfl, HV1⟩, hb1⟩
  go_wp2_with fail
  refine HV1.out.mono ?_
  rintro e w2 ⟨rfl, hb2⟩
  have hb2 := hb1.trans (hb2.mono hb1.size)
  have HB2 := Lib.hid (hb2.alloc hb2.size (.cells #[.string ⟨#[69, 105, 114, 101]⟩, .int .i64 1972, .int .i64 1048576, .int .i64 3, .int .i64 3, .int .i64 0, .int .i64 15, .int .i64 7200, .int .i64 2, .int .i64 0, .string ⟨#[]⟩] 29))
  clear hb0 hb1 hb2 HE HV1
  go_wp2_with fail
  refine (HU.out _ HB2.out).mono ?_
  rintro e w3 ⟨⟨v2, rfl, HV2⟩, hb3⟩
  have HG := Lib.hid (And.intro ((Blk.new' w2 29 #[.string ⟨#[69, 105, 114, 101]⟩, .int .i64 1972, .int .i64 1048576, .int .i64 3, .int .i64 3, .int .i64 0, .int .i64 15, .int .i64 7200, .int .i64 2, .int .i64 0, .string ⟨#[]⟩] rfl).below hb3 (by simp)) (HB2.out.trans (hb3.mono HB2.out.size)))
  clear hb3 HB2 HU
  generalize w2.heap.size = g1 at *
  go_wp2_with fail
  refine HV2.out.mono ?_
  rintro e w4 ⟨rfl, hb4⟩
  have HG4 := Lib.hid (And.intro ((HG.out.1.below hb4 HG.out.1.lt).alloc (.cells #[.string ⟨#[85, 83]⟩, .int .i64 1918, .int .i64 1918, .int .i64 3, .int .i64 2, .int .i64 0, .int .i64 0, .int .i64 7200, .int .i64 0, .int .i64 3600, .string ⟨#[68]⟩] 29)) (And.intro (Blk.new' w4 29 #[.string ⟨#[85, 83]⟩, .int .i64 1918, .int .i64 1918, .int .i64 3, .int .i64 2, .int .i64 0, .int .i64 0, .int .i64 7200, .int .i64 0, .int .i64 3600, .string ⟨#[68]⟩] rfl) (And.intro ((HG.out.2.trans (hb4.mono HG.out.2.size)).alloc (HG.out.2.trans (hb4.mono HG.out.2.size)).size (.cells #[.string ⟨#[85, 83]⟩, .int .i64 1918, .int .i64 1918, .int .i64 3, .int .i64 2, .int .i64 0, .int .i64 0, .int .i64 7200, .int .i64 0, .int .i64 3600, .string ⟨#[68]⟩] 29)) (HG.out.1.below hb4 HG.out.1.lt).lt)))
  clear hb4 HG HV2
  go_wp2_with fail
  refine (HP1.out _ HG4.out.2.2.1).mono ?_
  rintro e w5 ⟨rfl, hb5⟩
  have HG5 := Lib.hid (And.intro (HG4.out.1.below hb5 HG4.out.1.lt) (And.intro (HG4.out.2.1.below hb5 HG4.out.2.1.lt) (And.intro (HG4.out.2.2.1.trans (hb5.mono HG4.out.2.2.1.size)) HG4.out.2.2.2)))
  clear hb5 HG4 HP1
  generalize w4.heap.size = g2 at *
  have u0 : w5.cell? ⟨g2, 0, none⟩ = some (.string ⟨#[85, 83]⟩) := HG5.out.2.1.cell_ rfl
  have u1 : w5.cell? ⟨g2, 1, none⟩ = some (.int .i64 1918) := HG5.out.2.1.cell_ rfl
  have u2 : w5.cell? ⟨g2, 2, none⟩ = some (.int .i64 1918) := HG5.out.2.1.cell_ rfl
  have u3 : w5.cell? ⟨g2, 3, none⟩ = some (.int .i64 3) := HG5.out.2.1.cell_ rfl
  have u4 : w5.cell? ⟨g2, 4, none⟩ = some (.int .i64 2) := HG5.out.2.1.cell_ rfl
  have u5 : w5.cell? ⟨g2, 5, none⟩ = some (.int .i64 0) := HG5.out.2.1.cell_ rfl
  have u6 : w5.cell? ⟨g2, 6, none⟩ = some (.int .i64 0) := HG5.out.2.1.cell_ rfl
  have u7 : w5.cell? ⟨g2, 7, none⟩ = some (.int .i64 7200) := HG5.out.2.1.cell_ rfl
  have u8 : w5.cell? ⟨g2, 8, none⟩ = some (.int .i64 0) := HG5.out.2.1.cell_ rfl
  have u9 : w5.cell? ⟨g2, 9, none⟩ = some (.int .i64 3600) := HG5.out.2.1.cell_ rfl
  have u10 : w5.cell? ⟨g2, 10, none⟩ = some (.string ⟨#[68]⟩) := HG5.out.2.1.cell_ rfl
  have hl2 := HG5.out.2.1.lt
  go_upto_region 4 with fail
  go_cut [7, 8] (fun s7 s8 wx => ∃ a b : Nat, s7 = .pointer (some ⟨a, 0, none⟩) ∧ s8 = .pointer (some ⟨b, 0, none⟩) ∧ a ≠ b ∧ w.heap.size ≤ a ∧ w.heap.size ≤ b ∧ g1 < a ∧ g1 < b ∧ g2 < a ∧ g2 < b ∧ Blk wx a 29 #[.string ⟨#[85, 83]⟩, .int .i64 1918, .int .i64 1918, .int .i64 3, .int .i64 2, .int .i64 0, .int .i64 0, .int .i64 7200, .int .i64 0, .int .i64 3600, .string ⟨#[68]⟩] ∧ Blk wx b 29 #[.string ⟨#[85, 83]⟩, .int .i64 1918, .int .i64 1918, .int .i64 3, .int .i64 2, .int .i64 0, .int .i64 0, .int .i64 7200, .int .i64 0, .int .i64 3600, .string ⟨#[68]⟩] ∧ Blk wx g1 29 #[.string ⟨#[69, 105, 114, 101]⟩, .int .i64 1972, .int .i64 1048576, .int .i64 3, .int .i64 3, .int .i64 0, .int .i64 15, .int .i64 7200, .int .i64 2, .int .i64 0, .string ⟨#[]⟩] ∧ Blk wx g2 29 #[.string ⟨#[85, 83]⟩, .int .i64 1918, .int .i64 1918, .int .i64 3, .int .i64 2, .int .i64 0, .int .i64 0, .int .i64 7200, .int .i64 0, .int .i64 3600, .string ⟨#[68]⟩] ∧ Below w.heap.size w wx)
  case first =>
    have hl1 := HG5.out.1.lt
    have hl0 := HG5.out.2.2.1.size
    go_region
    all_goals
      go_wp2_with fail
      go_meet
      refine ⟨_, _, rfl, rfl, by omega, by omega, by omega, by omega, by omega, by omega, by omega, ?_, ?_, ?_, ?_, ?_⟩
      · repeat (first | (with_reducible refine Blk.new' _ _ _ ?_; (simp; done)) | (with_reducible refine Blk.drew ?_) | (with_reducible refine Blk.alloc ?_ _))
      · repeat (first | (with_reducible refine Blk.new' _ _ _ ?_; (simp; done)) | (with_reducible refine Blk.drew ?_) | (with_reducible refine Blk.alloc ?_ _))
      · repeat (first | (with_reducible exact HG5.out.1) | (with_reducible refine Blk.drew ?_) | (with_reducible refine Blk.alloc ?_ _))
      · repeat (first | (with_reducible exact HG5.out.2.1) | (with_reducible refine Blk.drew ?_) | (with_reducible refine Blk.alloc ?_ _))
      · repeat (first | (with_reducible exact HG5.out.2.2.1) | (with_reducible refine Below.drew ?_) | (with_reducible refine rbelow_alloc ?_ _))
  case rest =>
  obtain ⟨a, b, rfl, rfl, hab, ha, hb, h1a, h1b, h2a, h2b, hA, hBb, hE, hU, hBw⟩ := hcut
  clear u0 u1 u2 u3 u4 u5 u6 u7 u8 u9 u10 hl2 HG5
  have f1 : wc.cell? ⟨a, 1, none⟩ = some (.int .i64 1918) := hA.cell_ rfl
  have f2 : wc.frozen? ⟨a, 1, none⟩ = false := hA.frozen 1
  have f3 : wc.cell? ⟨b, 10, none⟩ = some (.string ⟨#[68]⟩) := hBb.cell_ rfl
  have f4 : wc.frozen? ⟨b, 10, none⟩ = false := hBb.frozen 10
  have HC := Lib.hid (And.intro hA (And.intro hBb (And.intro hE (And.intro hU hBw))))
  clear hA hBb hE hU hBw
  go_upto_region 6 with fail
  obtain ⟨wd, hwd⟩ : ∃ wd : World, wd = (wc.setCell ⟨a, 1, none⟩ (.int .i64 1849)).setCell ⟨b, 10, none⟩ (.string ⟨#[45]⟩) := ⟨_, rfl⟩
  rw [← hwd]
  have HD := Lib.hid (show Blk wd a 29 #[.string ⟨#[85, 83]⟩, .int .i64 1849, .int .i64 1918, .int .i64 3, .int .i64 2, .int .i64 0, .int .i64 0, .int .i64 7200, .int .i64 0, .int .i64 3600, .string ⟨#[68]⟩] ∧ Blk wd b 29 #[.string ⟨#[85, 83]⟩, .int .i64 1918, .int .i64 1918, .int .i64 3, .int .i64 2, .int .i64 0, .int .i64 0, .int .i64 7200, .int .i64 0, .int .i64 3600, .string ⟨#[45]⟩] ∧ Blk wd g1 29 #[.string ⟨#[69, 105, 114, 101]⟩, .int .i64 1972, .int .i64 1048576, .int .i64 3, .int .i64 3, .int .i64 0, .int .i64 15, .int .i64 7200, .int .i64 2, .int .i64 0, .string ⟨#[]⟩] ∧ Blk wd g2 29 #[.string ⟨#[85, 83]⟩, .int .i64 1918, .int .i64 1918, .int .i64 3, .int .i64 2, .int .i64 0, .int .i64 0, .int .i64 7200, .int .i64 0, .int .i64 3600, .string ⟨#[68]⟩] ∧ Below w.heap.size w wd by
    rw [hwd]
    exact ⟨(HC.out.1.set_ 1 _).far hab _, (HC.out.2.1.far (Ne.symm hab) _).set_ 10 _, (HC.out.2.2.1.far (by simp; omega) _).far (by simp; omega) _, (HC.out.2.2.2.1.far (by simp; omega) _).far (by simp; omega) _, below_sets hb [_] 10 _ (below_sets ha [_] 1 _ HC.out.2.2.2.2)⟩)
  clear hwd HC f1 f2 f3 f4
  have u0 : wd.cell? ⟨a, 0, none⟩ = some (.string ⟨#[85, 83]⟩) := HD.out.1.cell_ rfl
  have u1 : wd.cell? ⟨a, 1, none⟩ = some (.int .i64 1849) := HD.out.1.cell_ rfl
  have u2 : wd.cell? ⟨a, 2, none⟩ = some (.int .i64 1918) := HD.out.1.cell_ rfl
  have u3 : wd.cell? ⟨a, 3, none⟩ = some (.int .i64 3) := HD.out.1.cell_ rfl
  have u4 : wd.cell? ⟨a, 4, none⟩ = some (.int .i64 2) := HD.out.1.cell_ rfl
  have u5 : wd.cell? ⟨a, 5, none⟩ = some (.int .i64 0) := HD.out.1.cell_ rfl
  have u6 : wd.cell? ⟨a, 6, none⟩ = some (.int .i64 0) := HD.out.1.cell_ rfl
  have u7 : wd.cell? ⟨a, 7, none⟩ = some (.int .i64 7200) := HD.out.1.cell_ rfl
  have u8 : wd.cell? ⟨a, 8, none⟩ = some (.int .i64 0) := HD.out.1.cell_ rfl
  have u9 : wd.cell? ⟨a, 9, none⟩ = some (.int .i64 3600) := HD.out.1.cell_ rfl
  have u10 : wd.cell? ⟨a, 10, none⟩ = some (.string ⟨#[68]⟩) := HD.out.1.cell_ rfl
  go_wp2_with fail
  refine (HP2.out _ HD.out.2.2.2.2).mono ?_
  rintro e w6 ⟨rfl, hb6⟩
  have HG6 := Lib.hid (And.intro (HD.out.2.1.below hb6 HD.out.2.1.lt) (And.intro (HD.out.2.2.1.below hb6 HD.out.2.2.1.lt) (And.intro (HD.out.2.2.2.1.below hb6 HD.out.2.2.2.1.lt) (HD.out.2.2.2.2.trans (hb6.mono HD.out.2.2.2.2.size)))))
  clear u0 u1 u2 u3 u4 u5 u6 u7 u8 u9 u10 hb6 HD HP2
  have u0 : w6.cell? ⟨b, 0, none⟩ = some (.string ⟨#[85, 83]⟩) := HG6.out.1.cell_ rfl
  have u1 : w6.cell? ⟨b, 1, none⟩ = some (.int .i64 1918) := HG6.out.1.cell_ rfl
  have u2 : w6.cell? ⟨b, 2, none⟩ = some (.int .i64 1918) := HG6.out.1.cell_ rfl
  have u3 : w6.cell? ⟨b, 3, none⟩ = some (.int .i64 3) := HG6.out.1.cell_ rfl
  have u4 : w6.cell? ⟨b, 4, none⟩ = some (.int .i64 2) := HG6.out.1.cell_ rfl
  have u5 : w6.cell? ⟨b, 5, none⟩ = some (.int .i64 0) := HG6.out.1.cell_ rfl
  have u6 : w6.cell? ⟨b, 6, none⟩ = some (.int .i64 0) := HG6.out.1.cell_ rfl
  have u7 : w6.cell? ⟨b, 7, none⟩ = some (.int .i64 7200) := HG6.out.1.cell_ rfl
  have u8 : w6.cell? ⟨b, 8, none⟩ = some (.int .i64 0) := HG6.out.1.cell_ rfl
  have u9 : w6.cell? ⟨b, 9, none⟩ = some (.int .i64 3600) := HG6.out.1.cell_ rfl
  have u10 : w6.cell? ⟨b, 10, none⟩ = some (.string ⟨#[45]⟩) := HG6.out.1.cell_ rfl
  go_wp2_with fail
  refine (HP3.out _ HG6.out.2.2.2).mono ?_
  rintro e w7 ⟨rfl, hb7⟩
  have HG7 := Lib.hid (And.intro (HG6.out.2.1.below hb7 HG6.out.2.1.lt) (And.intro (HG6.out.2.2.1.below hb7 HG6.out.2.2.1.lt) (HG6.out.2.2.2.trans (hb7.mono HG6.out.2.2.2.size))))
  clear u0 u1 u2 u3 u4 u5 u6 u7 u8 u9 u10 hb7 HG6 HP3
  have u0 : w7.cell? ⟨g1, 0, none⟩ = some (.string ⟨#[69, 105, 114, 101]⟩) := HG7.out.1.cell_ rfl
  have u1 : w7.cell? ⟨g1, 1, none⟩ = some (.int .i64 1972) := HG7.out.1.cell_ rfl
  have u2 : w7.cell? ⟨g1, 2, none⟩ = some (.int .i64 1048576) := HG7.out.1.cell_ rfl
  have u3 : w7.cell? ⟨g1, 3, none⟩ = some (.int .i64 3) := HG7.out.1.cell_ rfl
  have u4 : w7.cell? ⟨g1, 4, none⟩ = some (.int .i64 3) := HG7.out.1.cell_ rfl
  have u5 : w7.cell? ⟨g1, 5, none⟩ = some (.int .i64 0) := HG7.out.1.cell_ rfl
  have u6 : w7.cell? ⟨g1, 6, none⟩ = some (.int .i64 15) := HG7.out.1.cell_ rfl
  have u7 : w7.cell? ⟨g1, 7, none⟩ = some (.int .i64 7200) := HG7.out.1.cell_ rfl
  have u8 : w7.cell? ⟨g1, 8, none⟩ = some (.int .i64 2) := HG7.out.1.cell_ rfl
  have u9 : w7.cell? ⟨g1, 9, none⟩ = some (.int .i64 0) := HG7.out.1.cell_ rfl
  have u10 : w7.cell? ⟨g1, 10, none⟩ = some (.string ⟨#[]⟩) := HG7.out.1.cell_ rfl
  have t2 : w7.cell? ⟨g2, 2, none⟩ = some (.int .i64 1918) := HG7.out.2.1.cell_ rfl
  have hB7 := HG7.out.2.2
  clear HG7
  go_wp2_with fail
  refine (HF0.out _ hB7).mono ?_
  rintro e x0 ⟨rfl, hx0⟩
  have hy0 := hB7.trans (hx0.mono hB7.size)
  clear hx0 hB7 HF0
  go_wp2_with fail
  refine (HF1.out _ hy0).mono ?_
  rintro e x1 ⟨rfl, hx1⟩
  have hy1 := hy0.trans (hx1.mono hy0.size)
  clear hx1 hy0 HF1
  go_wp2_with fail
  refine (HF2.out _ hy1).mono ?_
  rintro e x2 ⟨rfl, hx2⟩
  have hy2 := hy1.trans (hx2.mono hy1.size)
  clear hx2 hy1 HF2
  go_wp2_with fail
  refine (HF3.out _ hy2).mono ?_
  rintro e x3 ⟨rfl, hx3⟩
  have hy3 := hy2.trans (hx3.mono hy2.size)
  clear hx3 hy2 HF3
  go_wp2_with fail
  refine (HF4.out _ hy3).mono ?_
  rintro e x4 ⟨rfl, hx4⟩
  have hy4 := hy3.trans (hx4.mono hy3.size)
  clear hx4 hy3 HF4
  go_wp2_with fail
  refine (HF5.out _ hy4).mono ?_
  rintro e x5 ⟨rfl, hx5⟩
  have hy5 := hy4.trans (hx5.mono hy4.size)
  clear hx5 hy4 HF5
  go_wp2_with fail
  refine (HF6.out _ hy5).mono ?_
  rintro e x6 ⟨rfl, hx6⟩
  have hy6 := hy5.trans (hx6.mono hy5.size)
  clear hx6 hy5 HF6
  go_wp2_with fail
  go_ret
  exact ⟨rfl, hy6⟩
end Go.Proofs.YtgfnnmdngckmmaaGreatDoor
