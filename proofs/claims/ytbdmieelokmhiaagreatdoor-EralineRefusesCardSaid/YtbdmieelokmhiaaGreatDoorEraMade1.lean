/-
  The eras of drafts of kind 1: what Made returns.
  The eras of drafts of kind 2: what Made returns.
-/
import Derived.Test.YtbdmieelokmhiaaGreatDoorEraMade
set_option linter.unusedVariables false
namespace Go.Proofs.YtbdmieelokmhiaaGreatDoor
open Go.RowKit

set_option maxRecDepth 100000 in
set_option maxHeartbeats 2000000 in
theorem emade_1_0 (off sv at_ : Int) (kd st fm pt yr mo bs dk dw dd : Nat) (m1 m2 m3 : Int) (sF sS : ByteArray) (w : World) (h1 : -2147483648 ≤ off ∧ off ≤ 2147483647) (h2 : -2147483648 ≤ sv ∧ sv ≤ 2147483647) (b1 : kd < 256) (b2 : st < 256) (b3 : fm < 256) (b4 : pt < 256) (b5 : yr < 65536) (b6 : mo < 256)
    (hk : kd % 3 = 1) (hp : pt % 5 = 0) (hF : efmtM fm = sF.data.toList) (hS : esetM st = sS.data.toList)
    (H2 : Hid (∀ W, Calls Tryz.prog 35 #[.agg #[.int .u8 (dk : Int), .int .u8 (dw : Int), .int .u8 (dd : Int)]] W fun e w' => e = .returned (.agg #[.int .i64 m1, .int .i64 m2, .int .i64 m3]) ∧ Below W.heap.size W w'))
    (H6 : Hid (∀ W, Calls Tryz.prog 36 #[.int .i32 at_, .int .u8 (bs : Int)] W fun e w' => e = .returned (.agg #[.int .i64 (at_.tmod 604800), .int .i64 ((bs : Int) % 3)]) ∧ Below W.heap.size W w')) :
    Calls Tryz.prog 15 #[.agg #[.int .i32 off, .int .i32 sv, .int .i32 at_, .int .u8 (kd : Int), .int .u8 (st : Int), .int .u8 (fm : Int), .int .u8 (pt : Int), .int .u16 (yr : Int), .int .u8 (mo : Int), .int .u8 (bs : Int), .int .u8 (dk : Int), .int .u8 (dw : Int), .int .u8 (dd : Int)]] w fun e w' => e = .returned (.agg #[.int .i64 (off.tmod 604800), .int .i64 ((kd : Int) % 3), .int .i64 (sv.tmod 604800), .string ⟨#[]⟩, .string sF, .bool false, .int .i64 0, .int .i64 0, .int .i64 0, .int .i64 0, .int .i64 0, .int .i64 0, .int .i64 0]) ∧ Below w.heap.size w w' := by
  obtain ⟨h1a, h1b⟩ := h1
  obtain ⟨h2a, h2b⟩ := h2
  obtain ⟨i, hi⟩ : ∃ i, fm % 8 = i := ⟨_, rfl⟩
  obtain ⟨j, hj⟩ : ∃ j, st % 4 = j := ⟨_, rfl⟩
  have hi8 : i < 8 := by omega
  have hj4 : j < 4 := by omega
  have Hc1 := Lib.hid (show ∀ W g, Blk W g 9 #[.string ⟨#[71, 77, 84]⟩, .string ⟨#[65, 47, 66]⟩, .string ⟨#[37, 115]⟩, .string ⟨#[37, 122]⟩, .string ⟨#[43, 48, 53]⟩, .string ⟨#[43, 48, 53, 47, 43, 48, 54]⟩, .string ⟨#[67, 37, 115, 84]⟩, .string ⟨#[45, 48, 48]⟩] → W.cell? ⟨g, i, none⟩ = some (.string sF) from fun W g h => h.cell_ (by
    rw [show sF = ⟨(efmtM fm).toArray⟩ by rw [hF, ba_list], efmtM, hi]
    rcases (by omega : i = 0 ∨ i = 1 ∨ i = 2 ∨ i = 3 ∨ i = 4 ∨ i = 5 ∨ i = 6 ∨ i = 7) with h | h | h | h | h | h | h | h <;> subst h <;> rfl))
  have Hc2 := Lib.hid (show ∀ W g, Blk W g 9 #[.string ⟨#[69, 105, 114, 101]⟩, .string ⟨#[82]⟩, .string ⟨#[67, 45, 69, 117, 114]⟩, .string ⟨#[97, 95, 49]⟩] → W.cell? ⟨g, j, none⟩ = some (.string sS) from fun W g h => h.cell_ (by
    rw [show sS = ⟨(esetM st).toArray⟩ by rw [hS, ba_list], esetM, hj]
    rcases (by omega : j = 0 ∨ j = 1 ∨ j = 2 ∨ j = 3) with h | h | h | h <;> subst h <;> rfl))
  have htm : ∀ (a : Nat) (b : Int), (a : Int).tmod b = (a : Int) % b := fun a b => Int.tmod_eq_emod_of_nonneg (by omega)
  have hw1 : IntKind.i64.wrap off = off := IntWalk.i64_in _ (by omega)
  have hw2 : IntKind.i64.wrap sv = sv := IntWalk.i64_in _ (by omega)
  have hw3 : IntKind.i64.wrap ((kd : Int) % 3) = (kd : Int) % 3 := IntWalk.i64_in _ (by omega)
  have hiA : (0 : Int) ≤ (i : Int) := by omega
  have hiB : (i : Int) < 8 := by omega
  have hjA : (0 : Int) ≤ (j : Int) := by omega
  have hjB : (j : Int) < 4 := by omega
  have hiI : (fm : Int) % 8 = (i : Int) := by omega
  have hjI : (st : Int) % 4 = (j : Int) := by omega
  have e1 : ((kd : Int) % 3 == 1) = true := by rw [beq_iff_eq]; omega
  have e2 : ((kd : Int) % 3 == 2) = false := by rw [beq_eq_false_iff_ne]; omega
  have p0 : ((pt : Int) % 5 == 0) = true := by rw [beq_iff_eq]; omega
  have g1 : decide (1 < (pt : Int) % 5) = false := decide_eq_false (by omega)
  have g2 : decide (2 < (pt : Int) % 5) = false := decide_eq_false (by omega)
  have g3 : decide (3 < (pt : Int) % 5) = false := decide_eq_false (by omega)
  clear hk hp hF hS hi hj hi8 hj4
  go_enter Tryz.func15, Tryz.ntmps15
  go_upto_region 1 with fail
  have HG : EHeld w off sv at_ kd st fm pt yr mo bs dk dw dd ((w.alloc (.cells #[.int .i32 off, .int .i32 sv, .int .i32 at_, .int .u8 (kd : Int), .int .u8 (st : Int), .int .u8 (fm : Int), .int .u8 (pt : Int), .int .u16 (yr : Int), .int .u8 (mo : Int), .int .u8 (bs : Int), .int .u8 (dk : Int), .int .u8 (dw : Int), .int .u8 (dd : Int)] 43)).alloc (.cells #[.int .i64 0, .int .i64 0, .int .i64 0, .string ⟨#[]⟩, .string ⟨#[]⟩, .bool false, .int .i64 0, .int .i64 0, .int .i64 0, .int .i64 0, .int .i64 0, .int .i64 0, .int .i64 0] 31)) := ⟨(Blk.new' _ _ _ rfl).alloc _, Blk.new' _ _ _ (by simp), by go_grown⟩
  refine wp_region_rels 16 [[], [], [], [], [], [], [], [], [], [], [], [], [8], [12], [], []] [Form.val, Form.val, Form.val, Form.val, Form.val, Form.val, Form.val, Form.val, Form.rel (TabIs 8 #[.string ⟨#[71, 77, 84]⟩, .string ⟨#[65, 47, 66]⟩, .string ⟨#[37, 115]⟩, .string ⟨#[37, 122]⟩, .string ⟨#[43, 48, 53]⟩, .string ⟨#[43, 48, 53, 47, 43, 48, 54]⟩, .string ⟨#[67, 37, 115, 84]⟩, .string ⟨#[45, 48, 48]⟩]), Form.val, Form.val, Form.val, Form.rel (PtrIs i #[.string ⟨#[71, 77, 84]⟩, .string ⟨#[65, 47, 66]⟩, .string ⟨#[37, 115]⟩, .string ⟨#[37, 122]⟩, .string ⟨#[43, 48, 53]⟩, .string ⟨#[43, 48, 53, 47, 43, 48, 54]⟩, .string ⟨#[67, 37, 115, 84]⟩, .string ⟨#[45, 48, 48]⟩]), Form.val, Form.val, Form.rel (NewEra (w.heap.size + 2))] (EHeld w off sv at_ kd st fm pt yr mo bs dk dw dd) (by kernel_rfl) (by kernel_rfl) rfl rfl (⟨HG.1, HG.2.1, HG.2.2.drew⟩) (fun W W' h hb => ⟨h.1.below hb h.1.lt, h.2.1.below hb h.2.1.lt, h.2.2.trans (hb.mono h.2.2.size)⟩) ⟨TabIs.lasts _ _, PtrIs.lasts _ _, NewEra.lasts _, trivial⟩ ?_
  repeat (first | apply exSpec_rel | apply exSpec_new | apply exSpec_val)
  apply relWalk_ex rfl ?o0 (fun K hK => ?n0)
  case o0 =>
    intro W hC hF
    obtain ⟨q0, q1, q2, q3, q4, q5, q6, q7, q8, q9, q10, q11, q12⟩ := hC.cells
    go_simp
    all_goals exact ⟨Below.refl _ _, rfl⟩
  case' n0 =>
    go_simp
    refine hK _ ?_
    clear hK K
  apply relWalk_ex rfl ?o1 (fun K hK => ?n1)
  case o1 =>
    intro W hC hF
    obtain ⟨q0, q1, q2, q3, q4, q5, q6, q7, q8, q9, q10, q11, q12⟩ := hC.cells
    go_simp
    all_goals exact ⟨Below.refl _ _, rfl⟩
  case' n1 =>
    go_simp
    refine hK _ ?_
    clear hK K
  apply relWalk_ex rfl ?o2 (fun K hK => ?n2)
  case o2 =>
    intro W hC hF
    obtain ⟨q0, q1, q2, q3, q4, q5, q6, q7, q8, q9, q10, q11, q12⟩ := hC.cells
    go_simp
    all_goals exact ⟨Below.refl _ _, rfl⟩
  case' n2 =>
    go_simp
    refine hK _ ?_
    clear hK K
  apply relWalk_ex rfl ?o3 (fun K hK => ?n3)
  case o3 =>
    intro W hC hF
    obtain ⟨q0, q1, q2, q3, q4, q5, q6, q7, q8, q9, q10, q11, q12⟩ := hC.cells
    go_simp
    all_goals exact ⟨Below.refl _ _, rfl⟩
  case' n3 =>
    go_simp
    refine hK _ ?_
    clear hK K
  apply relWalk_ex rfl ?o4 (fun K hK => ?n4)
  case o4 =>
    intro W hC hF
    obtain ⟨q0, q1, q2, q3, q4, q5, q6, q7, q8, q9, q10, q11, q12⟩ := hC.cells
    go_simp
    all_goals exact ⟨Below.refl _ _, rfl⟩
  case' n4 =>
    go_simp
    refine hK _ ?_
    clear hK K
  apply relWalk_ex rfl ?o5 (fun K hK => ?n5)
  case o5 =>
    intro W hC hF
    obtain ⟨q0, q1, q2, q3, q4, q5, q6, q7, q8, q9, q10, q11, q12⟩ := hC.cells
    go_simp
    all_goals exact ⟨Below.refl _ _, rfl⟩
  case' n5 =>
    go_simp
    refine hK _ ?_
    clear hK K
  apply relWalk_ex rfl ?o6 (fun K hK => ?n6)
  case o6 =>
    intro W hC hF
    obtain ⟨q0, q1, q2, q3, q4, q5, q6, q7, q8, q9, q10, q11, q12⟩ := hC.cells
    go_simp
    all_goals exact ⟨Below.refl _ _, rfl⟩
  case' n6 =>
    go_simp
    refine hK _ ?_
    clear hK K
  apply relWalk_ex rfl ?o7 (fun K hK => ?n7)
  case o7 =>
    intro W hC hF
    obtain ⟨q0, q1, q2, q3, q4, q5, q6, q7, q8, q9, q10, q11, q12⟩ := hC.cells
    go_simp
    all_goals exact ⟨Below.refl _ _, rfl⟩
  case' n7 =>
    go_simp
    refine hK _ ?_
    clear hK K
  apply relWalk_rel rfl ?o8 (fun u8 K hK => ?n8)
  case o8 =>
    intro W hC hF
    obtain ⟨q0, q1, q2, q3, q4, q5, q6, q7, q8, q9, q10, q11, q12⟩ := hC.cells
    go_simp
    all_goals exact ⟨by go_grown, _, rfl, Blk.new _ _ _⟩
  case' n8 =>
    go_simp
    refine hK _ ?_
    clear hK K
  apply relWalk_ex rfl ?o9 (fun K hK => ?n9)
  case o9 =>
    intro W hC hF
    obtain ⟨q0, q1, q2, q3, q4, q5, q6, q7, q8, q9, q10, q11, q12⟩ := hC.cells
    go_simp
    all_goals exact ⟨Below.refl _ _, rfl⟩
  case' n9 =>
    go_simp
    refine hK _ ?_
    clear hK K
  apply relWalk_ex rfl ?o10 (fun K hK => ?n10)
  case o10 =>
    intro W hC hF
    obtain ⟨q0, q1, q2, q3, q4, q5, q6, q7, q8, q9, q10, q11, q12⟩ := hC.cells
    go_simp
    all_goals exact ⟨Below.refl _ _, rfl⟩
  case' n10 =>
    go_simp
    refine hK _ ?_
    clear hK K
  apply relWalk_ex rfl ?o11 (fun K hK => ?n11)
  case o11 =>
    intro W hC hF
    obtain ⟨q0, q1, q2, q3, q4, q5, q6, q7, q8, q9, q10, q11, q12⟩ := hC.cells
    go_simp
    all_goals exact ⟨Below.refl _ _, rfl⟩
  case' n11 =>
    go_simp
    refine hK _ ?_
    clear hK K
  apply relWalk_rel rfl ?o12 (fun u12 K hK => ?n12)
  case o12 =>
    intro W hC hF
    obtain ⟨⟨g, rfl, hB⟩, -⟩ := hF
    obtain ⟨q0, q1, q2, q3, q4, q5, q6, q7, q8, q9, q10, q11, q12⟩ := hC.cells
    go_simp
    all_goals exact ⟨by go_grown, g, rfl, hB⟩
  case' n12 =>
    go_simp
    refine hK _ ?_
    clear hK K
  apply relWalk_ex rfl ?o13 (fun K hK => ?n13)
  case o13 =>
    intro W hC hF
    obtain ⟨⟨g, rfl, hB⟩, -⟩ := hF
    have hx : W.cell? ⟨g, i, none⟩ = some (.string sF) := Hc1.out W g hB
    obtain ⟨q0, q1, q2, q3, q4, q5, q6, q7, q8, q9, q10, q11, q12⟩ := hC.cells
    go_simp
    all_goals exact ⟨Below.refl _ _, rfl⟩
  case' n13 =>
    go_simp
    refine hK _ ?_
    clear hK K
  apply relWalk_ex rfl ?o14 (fun K hK => ?n14)
  case o14 =>
    intro W hC hF
    obtain ⟨q0, q1, q2, q3, q4, q5, q6, q7, q8, q9, q10, q11, q12⟩ := hC.cells
    go_simp
    all_goals exact ⟨Below.refl _ _, rfl⟩
  case' n14 =>
    go_simp
    refine hK _ ?_
    clear hK K
  apply relWalk_rel rfl ?o15 (fun u15 K hK => ?n15)
  case o15 =>
    intro W hC hF
    obtain ⟨q0, q1, q2, q3, q4, q5, q6, q7, q8, q9, q10, q11, q12⟩ := hC.cells
    go_simp
    all_goals exact ⟨by go_grown, _, rfl, hC.2.1.lt, Blk.new _ _ _⟩
  case' n15 =>
    go_simp
    refine hK _ ?_
    clear hK K
  apply relWalk_end
  intro W hC hF hU
  obtain ⟨⟨g, rfl, hg, hB⟩, -⟩ := hF
  obtain ⟨hD, hZ, hb⟩ := hC
  refine wpList_store_mid rfl 31 (.tmp 3) (.tmp 18) rfl g 0 #[.int .i64 (off.tmod 604800), .int .i64 ((kd : Int) % 3), .int .i64 0, .string ⟨#[]⟩, .string sF, .bool false, .int .i64 0, .int .i64 0, .int .i64 0, .int .i64 0, .int .i64 0, .int .i64 0, .int .i64 0] rfl rfl (hB.there (Nat.le_refl _)) infoEra (by simp [Value.oneCell']) ?_
  have HB2 := Lib.hid (show Blk (W.setCells g 0 #[.int .i64 (off.tmod 604800), .int .i64 ((kd : Int) % 3), .int .i64 0, .string ⟨#[]⟩, .string sF, .bool false, .int .i64 0, .int .i64 0, .int .i64 0, .int .i64 0, .int .i64 0, .int .i64 0, .int .i64 0].toList) w.heap.size 43 #[.int .i32 off, .int .i32 sv, .int .i32 at_, .int .u8 (kd : Int), .int .u8 (st : Int), .int .u8 (fm : Int), .int .u8 (pt : Int), .int .u16 (yr : Int), .int .u8 (mo : Int), .int .u8 (bs : Int), .int .u8 (dk : Int), .int .u8 (dw : Int), .int .u8 (dd : Int)] ∧ Blk (W.setCells g 0 #[.int .i64 (off.tmod 604800), .int .i64 ((kd : Int) % 3), .int .i64 0, .string ⟨#[]⟩, .string sF, .bool false, .int .i64 0, .int .i64 0, .int .i64 0, .int .i64 0, .int .i64 0, .int .i64 0, .int .i64 0].toList) (w.heap.size + 1) 31 #[.int .i64 0, .int .i64 0, .int .i64 0, .string ⟨#[]⟩, .string ⟨#[]⟩, .bool false, .int .i64 0, .int .i64 0, .int .i64 0, .int .i64 0, .int .i64 0, .int .i64 0, .int .i64 0] ∧ Blk (W.setCells g 0 #[.int .i64 (off.tmod 604800), .int .i64 ((kd : Int) % 3), .int .i64 0, .string ⟨#[]⟩, .string sF, .bool false, .int .i64 0, .int .i64 0, .int .i64 0, .int .i64 0, .int .i64 0, .int .i64 0, .int .i64 0].toList) g 31 #[.int .i64 (off.tmod 604800), .int .i64 ((kd : Int) % 3), .int .i64 0, .string ⟨#[]⟩, .string sF, .bool false, .int .i64 0, .int .i64 0, .int .i64 0, .int .i64 0, .int .i64 0, .int .i64 0, .int .i64 0] ∧ Below w.heap.size w (W.setCells g 0 #[.int .i64 (off.tmod 604800), .int .i64 ((kd : Int) % 3), .int .i64 0, .string ⟨#[]⟩, .string sF, .bool false, .int .i64 0, .int .i64 0, .int .i64 0, .int .i64 0, .int .i64 0, .int .i64 0, .int .i64 0].toList) ∧ w.heap.size + 2 ≤ g from ⟨Blk.farSets hD (by omega) _ _, Blk.farSets hZ (by omega) _ _, hB.setAll #[.int .i64 (off.tmod 604800), .int .i64 ((kd : Int) % 3), .int .i64 0, .string ⟨#[]⟩, .string sF, .bool false, .int .i64 0, .int .i64 0, .int .i64 0, .int .i64 0, .int .i64 0, .int .i64 0, .int .i64 0] rfl, below_sets (by omega) _ _ _ hb, hg⟩)
  clear hU hD hZ hb hB hg HG htm hw1 hw3 Hc1 hiA hiB hiI
  generalize W.setCells g 0 #[.int .i64 (off.tmod 604800), .int .i64 ((kd : Int) % 3), .int .i64 0, .string ⟨#[]⟩, .string sF, .bool false, .int .i64 0, .int .i64 0, .int .i64 0, .int .i64 0, .int .i64 0, .int .i64 0, .int .i64 0].toList = w2 at *
  have k1 : w2.cell? ⟨g, 1, none⟩ = some (.int .i64 ((kd : Int) % 3)) := HB2.out.2.2.1.cell_ rfl
  have t1 : w2.cell? ⟨w.heap.size, 1, none⟩ = some (.int .i32 sv) := HB2.out.1.cell_ rfl
  have t6 : w2.cell? ⟨w.heap.size, 6, none⟩ = some (.int .u8 (pt : Int)) := HB2.out.1.cell_ rfl
  have q2 : w2.cell? ⟨g, 2, none⟩ = some (.int .i64 0) := HB2.out.2.2.1.cell_ rfl
  have f2 := HB2.out.2.2.1.frozen 2
  have hlt := HB2.out.2.2.1.lt
  obtain ⟨w3, hw3⟩ : ∃ W, (w2.setCell ⟨g, 2, none⟩ (.int .i64 (sv.tmod 604800))) = W := ⟨_, rfl⟩
  have HB3 := Lib.hid (show Blk w3 w.heap.size 43 #[.int .i32 off, .int .i32 sv, .int .i32 at_, .int .u8 (kd : Int), .int .u8 (st : Int), .int .u8 (fm : Int), .int .u8 (pt : Int), .int .u16 (yr : Int), .int .u8 (mo : Int), .int .u8 (bs : Int), .int .u8 (dk : Int), .int .u8 (dw : Int), .int .u8 (dd : Int)] ∧ Blk w3 (w.heap.size + 1) 31 #[.int .i64 0, .int .i64 0, .int .i64 0, .string ⟨#[]⟩, .string ⟨#[]⟩, .bool false, .int .i64 0, .int .i64 0, .int .i64 0, .int .i64 0, .int .i64 0, .int .i64 0, .int .i64 0] ∧ Blk w3 g 31 #[.int .i64 (off.tmod 604800), .int .i64 ((kd : Int) % 3), .int .i64 (sv.tmod 604800), .string ⟨#[]⟩, .string sF, .bool false, .int .i64 0, .int .i64 0, .int .i64 0, .int .i64 0, .int .i64 0, .int .i64 0, .int .i64 0] ∧ Below w.heap.size w w3 ∧ w.heap.size + 2 ≤ g from by
    rw [← hw3]
    have hg := HB2.out.2.2.2.2
    exact ⟨Blk.farSets HB2.out.1 (by omega) [.int .i64 (sv.tmod 604800)] 2, Blk.farSets HB2.out.2.1 (by omega) [.int .i64 (sv.tmod 604800)] 2, Blk.setMid [.int .i64 (off.tmod 604800), .int .i64 ((kd : Int) % 3)] [.int .i64 0] [.int .i64 (sv.tmod 604800)] [.string ⟨#[]⟩, .string sF, .bool false, .int .i64 0, .int .i64 0, .int .i64 0, .int .i64 0, .int .i64 0, .int .i64 0, .int .i64 0] HB2.out.2.2.1 rfl, below_sets (by omega) [.int .i64 (sv.tmod 604800)] 2 _ HB2.out.2.2.2.1, hg⟩)
  go_upto_region 7 with fail
  try simp only [hw3]
  clear hw3 HB2 q2 f2 hlt t1 t6 k1
  have t6 : w3.cell? ⟨w.heap.size, 6, none⟩ = some (.int .u8 (pt : Int)) := HB3.out.1.cell_ rfl
  obtain ⟨C, hCC⟩ : ∃ C : Array Value, #[.int .i64 (off.tmod 604800), .int .i64 ((kd : Int) % 3), .int .i64 (sv.tmod 604800), .string ⟨#[]⟩, .string sF, .bool false, .int .i64 0, .int .i64 0, .int .i64 0, .int .i64 0, .int .i64 0, .int .i64 0, .int .i64 0] = C := ⟨_, rfl⟩
  have Hi := Lib.hid (show (Tryz.prog.info? 31).map (·.size) = some C.size ∧ C.all (·.oneCell') = true ∧ C.size = 13 from hCC ▸ ⟨infoEra, by simp [Value.oneCell'], rfl⟩)
  rw [hCC] at HB3
  have HCC := Lib.hid hCC
  clear hCC
  go_wp2_with (first
    | (refine wpList_load_row rfl 31 (.tmp 3) rfl g rfl 31 C (0, 0) _ HB3.out.2.2.1 Tryz.underlying31 rfl Hi.out.1 ?_)
    | (refine wpList_store_mid rfl 31 (.tmp 2) (.tmp 41) rfl (w.heap.size + 1) 0 C rfl rfl (HB3.out.2.1.there (by rw [Hi.out.2.2]; decide)) Hi.out.1 Hi.out.2.1 ?_))
  exact bodyPost_ret (results_cell_row rfl _ _ (w.heap.size + 1) 31 C (0, 0) _ rfl (HB3.out.2.1.setAll C Hi.out.2.2) Tryz.underlying31 rfl Hi.out.1) rfl ⟨by rw [← HCC.out], below_sets (by omega) _ _ _ HB3.out.2.2.2.1⟩

set_option maxRecDepth 100000 in
set_option maxHeartbeats 2000000 in
theorem emade_1_1 (off sv at_ : Int) (kd st fm pt yr mo bs dk dw dd : Nat) (m1 m2 m3 : Int) (sF sS : ByteArray) (w : World) (h1 : -2147483648 ≤ off ∧ off ≤ 2147483647) (h2 : -2147483648 ≤ sv ∧ sv ≤ 2147483647) (b1 : kd < 256) (b2 : st < 256) (b3 : fm < 256) (b4 : pt < 256) (b5 : yr < 65536) (b6 : mo < 256)
    (hk : kd % 3 = 1) (hp : pt % 5 = 1) (hF : efmtM fm = sF.data.toList) (hS : esetM st = sS.data.toList)
    (H2 : Hid (∀ W, Calls Tryz.prog 35 #[.agg #[.int .u8 (dk : Int), .int .u8 (dw : Int), .int .u8 (dd : Int)]] W fun e w' => e = .returned (.agg #[.int .i64 m1, .int .i64 m2, .int .i64 m3]) ∧ Below W.heap.size W w'))
    (H6 : Hid (∀ W, Calls Tryz.prog 36 #[.int .i32 at_, .int .u8 (bs : Int)] W fun e w' => e = .returned (.agg #[.int .i64 (at_.tmod 604800), .int .i64 ((bs : Int) % 3)]) ∧ Below W.heap.size W w')) :
    Calls Tryz.prog 15 #[.agg #[.int .i32 off, .int .i32 sv, .int .i32 at_, .int .u8 (kd : Int), .int .u8 (st : Int), .int .u8 (fm : Int), .int .u8 (pt : Int), .int .u16 (yr : Int), .int .u8 (mo : Int), .int .u8 (bs : Int), .int .u8 (dk : Int), .int .u8 (dw : Int), .int .u8 (dd : Int)]] w fun e w' => e = .returned (.agg #[.int .i64 (off.tmod 604800), .int .i64 ((kd : Int) % 3), .int .i64 (sv.tmod 604800), .string ⟨#[]⟩, .string sF, .bool true, .int .i64 (1850 + (yr : Int) % 300), .int .i64 1, .int .i64 1, .int .i64 0, .int .i64 1, .int .i64 0, .int .i64 0]) ∧ Below w.heap.size w w' := by
  obtain ⟨h1a, h1b⟩ := h1
  obtain ⟨h2a, h2b⟩ := h2
  obtain ⟨i, hi⟩ : ∃ i, fm % 8 = i := ⟨_, rfl⟩
  obtain ⟨j, hj⟩ : ∃ j, st % 4 = j := ⟨_, rfl⟩
  have hi8 : i < 8 := by omega
  have hj4 : j < 4 := by omega
  have Hc1 := Lib.hid (show ∀ W g, Blk W g 9 #[.string ⟨#[71, 77, 84]⟩, .string ⟨#[65, 47, 66]⟩, .string ⟨#[37, 115]⟩, .string ⟨#[37, 122]⟩, .string ⟨#[43, 48, 53]⟩, .string ⟨#[43, 48, 53, 47, 43, 48, 54]⟩, .string ⟨#[67, 37, 115, 84]⟩, .string ⟨#[45, 48, 48]⟩] → W.cell? ⟨g, i, none⟩ = some (.string sF) from fun W g h => h.cell_ (by
    rw [show sF = ⟨(efmtM fm).toArray⟩ by rw [hF, ba_list], efmtM, hi]
    rcases (by omega : i = 0 ∨ i = 1 ∨ i = 2 ∨ i = 3 ∨ i = 4 ∨ i = 5 ∨ i = 6 ∨ i = 7) with h | h | h | h | h | h | h | h <;> subst h <;> rfl))
  have Hc2 := Lib.hid (show ∀ W g, Blk W g 9 #[.string ⟨#[69, 105, 114, 101]⟩, .string ⟨#[82]⟩, .string ⟨#[67, 45, 69, 117, 114]⟩, .string ⟨#[97, 95, 49]⟩] → W.cell? ⟨g, j, none⟩ = some (.string sS) from fun W g h => h.cell_ (by
    rw [show sS = ⟨(esetM st).toArray⟩ by rw [hS, ba_list], esetM, hj]
    rcases (by omega : j = 0 ∨ j = 1 ∨ j = 2 ∨ j = 3) with h | h | h | h <;> subst h <;> rfl))
  have htm : ∀ (a : Nat) (b : Int), (a : Int).tmod b = (a : Int) % b := fun a b => Int.tmod_eq_emod_of_nonneg (by omega)
  have hw1 : IntKind.i64.wrap off = off := IntWalk.i64_in _ (by omega)
  have hw2 : IntKind.i64.wrap sv = sv := IntWalk.i64_in _ (by omega)
  have hw3 : IntKind.i64.wrap ((kd : Int) % 3) = (kd : Int) % 3 := IntWalk.i64_in _ (by omega)
  have hiA : (0 : Int) ≤ (i : Int) := by omega
  have hiB : (i : Int) < 8 := by omega
  have hjA : (0 : Int) ≤ (j : Int) := by omega
  have hjB : (j : Int) < 4 := by omega
  have hiI : (fm : Int) % 8 = (i : Int) := by omega
  have hjI : (st : Int) % 4 = (j : Int) := by omega
  have e1 : ((kd : Int) % 3 == 1) = true := by rw [beq_iff_eq]; omega
  have e2 : ((kd : Int) % 3 == 2) = false := by rw [beq_eq_false_iff_ne]; omega
  have p0 : ((pt : Int) % 5 == 0) = false := by rw [beq_eq_false_iff_ne]; omega
  have g1 : decide (1 < (pt : Int) % 5) = false := decide_eq_false (by omega)
  have g2 : decide (2 < (pt : Int) % 5) = false := decide_eq_false (by omega)
  have g3 : decide (3 < (pt : Int) % 5) = false := decide_eq_false (by omega)
  clear hk hp hF hS hi hj hi8 hj4
  go_enter Tryz.func15, Tryz.ntmps15
  go_upto_region 1 with fail
  have HG : EHeld w off sv at_ kd st fm pt yr mo bs dk dw dd ((w.alloc (.cells #[.int .i32 off, .int .i32 sv, .int .i32 at_, .int .u8 (kd : Int), .int .u8 (st : Int), .int .u8 (fm : Int), .int .u8 (pt : Int), .int .u16 (yr : Int), .int .u8 (mo : Int), .int .u8 (bs : Int), .int .u8 (dk : Int), .int .u8 (dw : Int), .int .u8 (dd : Int)] 43)).alloc (.cells #[.int .i64 0, .int .i64 0, .int .i64 0, .string ⟨#[]⟩, .string ⟨#[]⟩, .bool false, .int .i64 0, .int .i64 0, .int .i64 0, .int .i64 0, .int .i64 0, .int .i64 0, .int .i64 0] 31)) := ⟨(Blk.new' _ _ _ rfl).alloc _, Blk.new' _ _ _ (by simp), by go_grown⟩
  refine wp_region_rels 16 [[], [], [], [], [], [], [], [], [], [], [], [], [8], [12], [], []] [Form.val, Form.val, Form.val, Form.val, Form.val, Form.val, Form.val, Form.val, Form.rel (TabIs 8 #[.string ⟨#[71, 77, 84]⟩, .string ⟨#[65, 47, 66]⟩, .string ⟨#[37, 115]⟩, .string ⟨#[37, 122]⟩, .string ⟨#[43, 48, 53]⟩, .string ⟨#[43, 48, 53, 47, 43, 48, 54]⟩, .string ⟨#[67, 37, 115, 84]⟩, .string ⟨#[45, 48, 48]⟩]), Form.val, Form.val, Form.val, Form.rel (PtrIs i #[.string ⟨#[71, 77, 84]⟩, .string ⟨#[65, 47, 66]⟩, .string ⟨#[37, 115]⟩, .string ⟨#[37, 122]⟩, .string ⟨#[43, 48, 53]⟩, .string ⟨#[43, 48, 53, 47, 43, 48, 54]⟩, .string ⟨#[67, 37, 115, 84]⟩, .string ⟨#[45, 48, 48]⟩]), Form.val, Form.val, Form.rel (NewEra (w.heap.size + 2))] (EHeld w off sv at_ kd st fm pt yr mo bs dk dw dd) (by kernel_rfl) (by kernel_rfl) rfl rfl (⟨HG.1, HG.2.1, HG.2.2.drew⟩) (fun W W' h hb => ⟨h.1.below hb h.1.lt, h.2.1.below hb h.2.1.lt, h.2.2.trans (hb.mono h.2.2.size)⟩) ⟨TabIs.lasts _ _, PtrIs.lasts _ _, NewEra.lasts _, trivial⟩ ?_
  repeat (first | apply exSpec_rel | apply exSpec_new | apply exSpec_val)
  apply relWalk_ex rfl ?o0 (fun K hK => ?n0)
  case o0 =>
    intro W hC hF
    obtain ⟨q0, q1, q2, q3, q4, q5, q6, q7, q8, q9, q10, q11, q12⟩ := hC.cells
    go_simp
    all_goals exact ⟨Below.refl _ _, rfl⟩
  case' n0 =>
    go_simp
    refine hK _ ?_
    clear hK K
  apply relWalk_ex rfl ?o1 (fun K hK => ?n1)
  case o1 =>
    intro W hC hF
    obtain ⟨q0, q1, q2, q3, q4, q5, q6, q7, q8, q9, q10, q11, q12⟩ := hC.cells
    go_simp
    all_goals exact ⟨Below.refl _ _, rfl⟩
  case' n1 =>
    go_simp
    refine hK _ ?_
    clear hK K
  apply relWalk_ex rfl ?o2 (fun K hK => ?n2)
  case o2 =>
    intro W hC hF
    obtain ⟨q0, q1, q2, q3, q4, q5, q6, q7, q8, q9, q10, q11, q12⟩ := hC.cells
    go_simp
    all_goals exact ⟨Below.refl _ _, rfl⟩
  case' n2 =>
    go_simp
    refine hK _ ?_
    clear hK K
  apply relWalk_ex rfl ?o3 (fun K hK => ?n3)
  case o3 =>
    intro W hC hF
    obtain ⟨q0, q1, q2, q3, q4, q5, q6, q7, q8, q9, q10, q11, q12⟩ := hC.cells
    go_simp
    all_goals exact ⟨Below.refl _ _, rfl⟩
  case' n3 =>
    go_simp
    refine hK _ ?_
    clear hK K
  apply relWalk_ex rfl ?o4 (fun K hK => ?n4)
  case o4 =>
    intro W hC hF
    obtain ⟨q0, q1, q2, q3, q4, q5, q6, q7, q8, q9, q10, q11, q12⟩ := hC.cells
    go_simp
    all_goals exact ⟨Below.refl _ _, rfl⟩
  case' n4 =>
    go_simp
    refine hK _ ?_
    clear hK K
  apply relWalk_ex rfl ?o5 (fun K hK => ?n5)
  case o5 =>
    intro W hC hF
    obtain ⟨q0, q1, q2, q3, q4, q5, q6, q7, q8, q9, q10, q11, q12⟩ := hC.cells
    go_simp
    all_goals exact ⟨Below.refl _ _, rfl⟩
  case' n5 =>
    go_simp
    refine hK _ ?_
    clear hK K
  apply relWalk_ex rfl ?o6 (fun K hK => ?n6)
  case o6 =>
    intro W hC hF
    obtain ⟨q0, q1, q2, q3, q4, q5, q6, q7, q8, q9, q10, q11, q12⟩ := hC.cells
    go_simp
    all_goals exact ⟨Below.refl _ _, rfl⟩
  case' n6 =>
    go_simp
    refine hK _ ?_
    clear hK K
  apply relWalk_ex rfl ?o7 (fun K hK => ?n7)
  case o7 =>
    intro W hC hF
    obtain ⟨q0, q1, q2, q3, q4, q5, q6, q7, q8, q9, q10, q11, q12⟩ := hC.cells
    go_simp
    all_goals exact ⟨Below.refl _ _, rfl⟩
  case' n7 =>
    go_simp
    refine hK _ ?_
    clear hK K
  apply relWalk_rel rfl ?o8 (fun u8 K hK => ?n8)
  case o8 =>
    intro W hC hF
    obtain ⟨q0, q1, q2, q3, q4, q5, q6, q7, q8, q9, q10, q11, q12⟩ := hC.cells
    go_simp
    all_goals exact ⟨by go_grown, _, rfl, Blk.new _ _ _⟩
  case' n8 =>
    go_simp
    refine hK _ ?_
    clear hK K
  apply relWalk_ex rfl ?o9 (fun K hK => ?n9)
  case o9 =>
    intro W hC hF
    obtain ⟨q0, q1, q2, q3, q4, q5, q6, q7, q8, q9, q10, q11, q12⟩ := hC.cells
    go_simp
    all_goals exact ⟨Below.refl _ _, rfl⟩
  case' n9 =>
    go_simp
    refine hK _ ?_
    clear hK K
  apply relWalk_ex rfl ?o10 (fun K hK => ?n10)
  case o10 =>
    intro W hC hF
    obtain ⟨q0, q1, q2, q3, q4, q5, q6, q7, q8, q9, q10, q11, q12⟩ := hC.cells
    go_simp
    all_goals exact ⟨Below.refl _ _, rfl⟩
  case' n10 =>
    go_simp
    refine hK _ ?_
    clear hK K
  apply relWalk_ex rfl ?o11 (fun K hK => ?n11)
  case o11 =>
    intro W hC hF
    obtain ⟨q0, q1, q2, q3, q4, q5, q6, q7, q8, q9, q10, q11, q12⟩ := hC.cells
    go_simp
    all_goals exact ⟨Below.refl _ _, rfl⟩
  case' n11 =>
    go_simp
    refine hK _ ?_
    clear hK K
  apply relWalk_rel rfl ?o12 (fun u12 K hK => ?n12)
  case o12 =>
    intro W hC hF
    obtain ⟨⟨g, rfl, hB⟩, -⟩ := hF
    obtain ⟨q0, q1, q2, q3, q4, q5, q6, q7, q8, q9, q10, q11, q12⟩ := hC.cells
    go_simp
    all_goals exact ⟨by go_grown, g, rfl, hB⟩
  case' n12 =>
    go_simp
    refine hK _ ?_
    clear hK K
  apply relWalk_ex rfl ?o13 (fun K hK => ?n13)
  case o13 =>
    intro W hC hF
    obtain ⟨⟨g, rfl, hB⟩, -⟩ := hF
    have hx : W.cell? ⟨g, i, none⟩ = some (.string sF) := Hc1.out W g hB
    obtain ⟨q0, q1, q2, q3, q4, q5, q6, q7, q8, q9, q10, q11, q12⟩ := hC.cells
    go_simp
    all_goals exact ⟨Below.refl _ _, rfl⟩
  case' n13 =>
    go_simp
    refine hK _ ?_
    clear hK K
  apply relWalk_ex rfl ?o14 (fun K hK => ?n14)
  case o14 =>
    intro W hC hF
    obtain ⟨q0, q1, q2, q3, q4, q5, q6, q7, q8, q9, q10, q11, q12⟩ := hC.cells
    go_simp
    all_goals exact ⟨Below.refl _ _, rfl⟩
  case' n14 =>
    go_simp
    refine hK _ ?_
    clear hK K
  apply relWalk_rel rfl ?o15 (fun u15 K hK => ?n15)
  case o15 =>
    intro W hC hF
    obtain ⟨q0, q1, q2, q3, q4, q5, q6, q7, q8, q9, q10, q11, q12⟩ := hC.cells
    go_simp
    all_goals exact ⟨by go_grown, _, rfl, hC.2.1.lt, Blk.new _ _ _⟩
  case' n15 =>
    go_simp
    refine hK _ ?_
    clear hK K
  apply relWalk_end
  intro W hC hF hU
  obtain ⟨⟨g, rfl, hg, hB⟩, -⟩ := hF
  obtain ⟨hD, hZ, hb⟩ := hC
  refine wpList_store_mid rfl 31 (.tmp 3) (.tmp 18) rfl g 0 #[.int .i64 (off.tmod 604800), .int .i64 ((kd : Int) % 3), .int .i64 0, .string ⟨#[]⟩, .string sF, .bool false, .int .i64 0, .int .i64 0, .int .i64 0, .int .i64 0, .int .i64 0, .int .i64 0, .int .i64 0] rfl rfl (hB.there (Nat.le_refl _)) infoEra (by simp [Value.oneCell']) ?_
  have HB2 := Lib.hid (show Blk (W.setCells g 0 #[.int .i64 (off.tmod 604800), .int .i64 ((kd : Int) % 3), .int .i64 0, .string ⟨#[]⟩, .string sF, .bool false, .int .i64 0, .int .i64 0, .int .i64 0, .int .i64 0, .int .i64 0, .int .i64 0, .int .i64 0].toList) w.heap.size 43 #[.int .i32 off, .int .i32 sv, .int .i32 at_, .int .u8 (kd : Int), .int .u8 (st : Int), .int .u8 (fm : Int), .int .u8 (pt : Int), .int .u16 (yr : Int), .int .u8 (mo : Int), .int .u8 (bs : Int), .int .u8 (dk : Int), .int .u8 (dw : Int), .int .u8 (dd : Int)] ∧ Blk (W.setCells g 0 #[.int .i64 (off.tmod 604800), .int .i64 ((kd : Int) % 3), .int .i64 0, .string ⟨#[]⟩, .string sF, .bool false, .int .i64 0, .int .i64 0, .int .i64 0, .int .i64 0, .int .i64 0, .int .i64 0, .int .i64 0].toList) (w.heap.size + 1) 31 #[.int .i64 0, .int .i64 0, .int .i64 0, .string ⟨#[]⟩, .string ⟨#[]⟩, .bool false, .int .i64 0, .int .i64 0, .int .i64 0, .int .i64 0, .int .i64 0, .int .i64 0, .int .i64 0] ∧ Blk (W.setCells g 0 #[.int .i64 (off.tmod 604800), .int .i64 ((kd : Int) % 3), .int .i64 0, .string ⟨#[]⟩, .string sF, .bool false, .int .i64 0, .int .i64 0, .int .i64 0, .int .i64 0, .int .i64 0, .int .i64 0, .int .i64 0].toList) g 31 #[.int .i64 (off.tmod 604800), .int .i64 ((kd : Int) % 3), .int .i64 0, .string ⟨#[]⟩, .string sF, .bool false, .int .i64 0, .int .i64 0, .int .i64 0, .int .i64 0, .int .i64 0, .int .i64 0, .int .i64 0] ∧ Below w.heap.size w (W.setCells g 0 #[.int .i64 (off.tmod 604800), .int .i64 ((kd : Int) % 3), .int .i64 0, .string ⟨#[]⟩, .string sF, .bool false, .int .i64 0, .int .i64 0, .int .i64 0, .int .i64 0, .int .i64 0, .int .i64 0, .int .i64 0].toList) ∧ w.heap.size + 2 ≤ g from ⟨Blk.farSets hD (by omega) _ _, Blk.farSets hZ (by omega) _ _, hB.setAll #[.int .i64 (off.tmod 604800), .int .i64 ((kd : Int) % 3), .int .i64 0, .string ⟨#[]⟩, .string sF, .bool false, .int .i64 0, .int .i64 0, .int .i64 0, .int .i64 0, .int .i64 0, .int .i64 0, .int .i64 0] rfl, below_sets (by omega) _ _ _ hb, hg⟩)
  clear hU hD hZ hb hB hg HG htm hw1 hw3 Hc1 hiA hiB hiI
  generalize W.setCells g 0 #[.int .i64 (off.tmod 604800), .int .i64 ((kd : Int) % 3), .int .i64 0, .string ⟨#[]⟩, .string sF, .bool false, .int .i64 0, .int .i64 0, .int .i64 0, .int .i64 0, .int .i64 0, .int .i64 0, .int .i64 0].toList = w2 at *
  have k1 : w2.cell? ⟨g, 1, none⟩ = some (.int .i64 ((kd : Int) % 3)) := HB2.out.2.2.1.cell_ rfl
  have t1 : w2.cell? ⟨w.heap.size, 1, none⟩ = some (.int .i32 sv) := HB2.out.1.cell_ rfl
  have t6 : w2.cell? ⟨w.heap.size, 6, none⟩ = some (.int .u8 (pt : Int)) := HB2.out.1.cell_ rfl
  have q2 : w2.cell? ⟨g, 2, none⟩ = some (.int .i64 0) := HB2.out.2.2.1.cell_ rfl
  have f2 := HB2.out.2.2.1.frozen 2
  have hlt := HB2.out.2.2.1.lt
  obtain ⟨w3, hw3⟩ : ∃ W, (w2.setCell ⟨g, 2, none⟩ (.int .i64 (sv.tmod 604800))) = W := ⟨_, rfl⟩
  have HB3 := Lib.hid (show Blk w3 w.heap.size 43 #[.int .i32 off, .int .i32 sv, .int .i32 at_, .int .u8 (kd : Int), .int .u8 (st : Int), .int .u8 (fm : Int), .int .u8 (pt : Int), .int .u16 (yr : Int), .int .u8 (mo : Int), .int .u8 (bs : Int), .int .u8 (dk : Int), .int .u8 (dw : Int), .int .u8 (dd : Int)] ∧ Blk w3 (w.heap.size + 1) 31 #[.int .i64 0, .int .i64 0, .int .i64 0, .string ⟨#[]⟩, .string ⟨#[]⟩, .bool false, .int .i64 0, .int .i64 0, .int .i64 0, .int .i64 0, .int .i64 0, .int .i64 0, .int .i64 0] ∧ Blk w3 g 31 #[.int .i64 (off.tmod 604800), .int .i64 ((kd : Int) % 3), .int .i64 (sv.tmod 604800), .string ⟨#[]⟩, .string sF, .bool false, .int .i64 0, .int .i64 0, .int .i64 0, .int .i64 0, .int .i64 0, .int .i64 0, .int .i64 0] ∧ Below w.heap.size w w3 ∧ w.heap.size + 2 ≤ g from by
    rw [← hw3]
    have hg := HB2.out.2.2.2.2
    exact ⟨Blk.farSets HB2.out.1 (by omega) [.int .i64 (sv.tmod 604800)] 2, Blk.farSets HB2.out.2.1 (by omega) [.int .i64 (sv.tmod 604800)] 2, Blk.setMid [.int .i64 (off.tmod 604800), .int .i64 ((kd : Int) % 3)] [.int .i64 0] [.int .i64 (sv.tmod 604800)] [.string ⟨#[]⟩, .string sF, .bool false, .int .i64 0, .int .i64 0, .int .i64 0, .int .i64 0, .int .i64 0, .int .i64 0, .int .i64 0] HB2.out.2.2.1 rfl, below_sets (by omega) [.int .i64 (sv.tmod 604800)] 2 _ HB2.out.2.2.2.1, hg⟩)
  go_upto_region 7 with fail
  try simp only [hw3]
  clear hw3 HB2 q2 f2 hlt t1 t6 k1
  have t6 : w3.cell? ⟨w.heap.size, 6, none⟩ = some (.int .u8 (pt : Int)) := HB3.out.1.cell_ rfl
  have t7 : w3.cell? ⟨w.heap.size, 7, none⟩ = some (.int .u16 (yr : Int)) := HB3.out.1.cell_ rfl
  go_wp2_with fail
  refine (until_any _ _ _ _ _ _).mono ?_
  rintro e w4 ⟨rfl, hb⟩
  have HB4 := Lib.hid (show Blk w4 w.heap.size 43 #[.int .i32 off, .int .i32 sv, .int .i32 at_, .int .u8 (kd : Int), .int .u8 (st : Int), .int .u8 (fm : Int), .int .u8 (pt : Int), .int .u16 (yr : Int), .int .u8 (mo : Int), .int .u8 (bs : Int), .int .u8 (dk : Int), .int .u8 (dw : Int), .int .u8 (dd : Int)] ∧ Blk w4 (w.heap.size + 1) 31 #[.int .i64 0, .int .i64 0, .int .i64 0, .string ⟨#[]⟩, .string ⟨#[]⟩, .bool false, .int .i64 0, .int .i64 0, .int .i64 0, .int .i64 0, .int .i64 0, .int .i64 0, .int .i64 0] ∧ Blk w4 g 31 #[.int .i64 (off.tmod 604800), .int .i64 ((kd : Int) % 3), .int .i64 (sv.tmod 604800), .string ⟨#[]⟩, .string sF, .bool false, .int .i64 0, .int .i64 0, .int .i64 0, .int .i64 0, .int .i64 0, .int .i64 0, .int .i64 0] ∧ Below w.heap.size w w4 ∧ w.heap.size + 2 ≤ g from ⟨HB3.out.1.below hb HB3.out.1.lt, HB3.out.2.1.below hb HB3.out.2.1.lt, HB3.out.2.2.1.below hb HB3.out.2.2.1.lt, HB3.out.2.2.2.1.trans (hb.mono HB3.out.2.2.2.1.size), HB3.out.2.2.2.2⟩)
  clear hb HB3 t6 t7
  have q5 : w4.cell? ⟨g, 5, none⟩ = some (.bool false) := HB4.out.2.2.1.cell_ rfl
  have f5 := HB4.out.2.2.1.frozen 5
  have q6 : w4.cell? ⟨g, 6, none⟩ = some (.int .i64 0) := HB4.out.2.2.1.cell_ rfl
  have f6 := HB4.out.2.2.1.frozen 6
  have q7 : w4.cell? ⟨g, 7, none⟩ = some (.int .i64 0) := HB4.out.2.2.1.cell_ rfl
  have f7 := HB4.out.2.2.1.frozen 7
  have q8 : w4.cell? ⟨g, 8, none⟩ = some (.int .i64 0) := HB4.out.2.2.1.cell_ rfl
  have f8 := HB4.out.2.2.1.frozen 8
  have q9 : w4.cell? ⟨g, 9, none⟩ = some (.int .i64 0) := HB4.out.2.2.1.cell_ rfl
  have f9 := HB4.out.2.2.1.frozen 9
  have q10 : w4.cell? ⟨g, 10, none⟩ = some (.int .i64 0) := HB4.out.2.2.1.cell_ rfl
  have f10 := HB4.out.2.2.1.frozen 10
  have q11 : w4.cell? ⟨g, 11, none⟩ = some (.int .i64 0) := HB4.out.2.2.1.cell_ rfl
  have f11 := HB4.out.2.2.1.frozen 11
  have q12 : w4.cell? ⟨g, 12, none⟩ = some (.int .i64 0) := HB4.out.2.2.1.cell_ rfl
  have f12 := HB4.out.2.2.1.frozen 12
  have hlt := HB4.out.2.2.1.lt
  obtain ⟨w5, hw5⟩ : ∃ W, ((((((((w4.setCell ⟨g, 5, none⟩ (.bool true)).setCell ⟨g, 6, none⟩ (.int .i64 (1850 + (yr : Int) % 300))).setCell ⟨g, 7, none⟩ (.int .i64 1)).setCell ⟨g, 8, none⟩ (.int .i64 1)).setCell ⟨g, 9, none⟩ (.int .i64 0)).setCell ⟨g, 10, none⟩ (.int .i64 1)).setCell ⟨g, 11, none⟩ (.int .i64 0)).setCell ⟨g, 12, none⟩ (.int .i64 0)) = W := ⟨_, rfl⟩
  have HB5 := Lib.hid (show Blk w5 w.heap.size 43 #[.int .i32 off, .int .i32 sv, .int .i32 at_, .int .u8 (kd : Int), .int .u8 (st : Int), .int .u8 (fm : Int), .int .u8 (pt : Int), .int .u16 (yr : Int), .int .u8 (mo : Int), .int .u8 (bs : Int), .int .u8 (dk : Int), .int .u8 (dw : Int), .int .u8 (dd : Int)] ∧ Blk w5 (w.heap.size + 1) 31 #[.int .i64 0, .int .i64 0, .int .i64 0, .string ⟨#[]⟩, .string ⟨#[]⟩, .bool false, .int .i64 0, .int .i64 0, .int .i64 0, .int .i64 0, .int .i64 0, .int .i64 0, .int .i64 0] ∧ Blk w5 g 31 #[.int .i64 (off.tmod 604800), .int .i64 ((kd : Int) % 3), .int .i64 (sv.tmod 604800), .string ⟨#[]⟩, .string sF, .bool true, .int .i64 (1850 + (yr : Int) % 300), .int .i64 1, .int .i64 1, .int .i64 0, .int .i64 1, .int .i64 0, .int .i64 0] ∧ Below w.heap.size w w5 ∧ w.heap.size + 2 ≤ g from by
    rw [← hw5]
    have hg := HB4.out.2.2.2.2
    exact ⟨Blk.farSets HB4.out.1 (by omega) [.bool true, .int .i64 (1850 + (yr : Int) % 300), .int .i64 1, .int .i64 1, .int .i64 0, .int .i64 1, .int .i64 0, .int .i64 0] 5, Blk.farSets HB4.out.2.1 (by omega) [.bool true, .int .i64 (1850 + (yr : Int) % 300), .int .i64 1, .int .i64 1, .int .i64 0, .int .i64 1, .int .i64 0, .int .i64 0] 5, Blk.setMid [.int .i64 (off.tmod 604800), .int .i64 ((kd : Int) % 3), .int .i64 (sv.tmod 604800), .string ⟨#[]⟩, .string sF] [.bool false, .int .i64 0, .int .i64 0, .int .i64 0, .int .i64 0, .int .i64 0, .int .i64 0, .int .i64 0] [.bool true, .int .i64 (1850 + (yr : Int) % 300), .int .i64 1, .int .i64 1, .int .i64 0, .int .i64 1, .int .i64 0, .int .i64 0] [] HB4.out.2.2.1 rfl, below_sets (by omega) [.bool true, .int .i64 (1850 + (yr : Int) % 300), .int .i64 1, .int .i64 1, .int .i64 0, .int .i64 1, .int .i64 0, .int .i64 0] 5 _ HB4.out.2.2.2.1, hg⟩)
  go_upto_region 10 with fail
  try simp only [hw5]
  clear hw5 HB4 q5 f5 q6 f6 q7 f7 q8 f8 q9 f9 q10 f10 q11 f11 q12 f12 hlt
  have t6 : w5.cell? ⟨w.heap.size, 6, none⟩ = some (.int .u8 (pt : Int)) := HB5.out.1.cell_ rfl
  obtain ⟨C, hCC⟩ : ∃ C : Array Value, #[.int .i64 (off.tmod 604800), .int .i64 ((kd : Int) % 3), .int .i64 (sv.tmod 604800), .string ⟨#[]⟩, .string sF, .bool true, .int .i64 (1850 + (yr : Int) % 300), .int .i64 1, .int .i64 1, .int .i64 0, .int .i64 1, .int .i64 0, .int .i64 0] = C := ⟨_, rfl⟩
  have Hi := Lib.hid (show (Tryz.prog.info? 31).map (·.size) = some C.size ∧ C.all (·.oneCell') = true ∧ C.size = 13 from hCC ▸ ⟨infoEra, by simp [Value.oneCell'], rfl⟩)
  rw [hCC] at HB5
  have HCC := Lib.hid hCC
  clear hCC
  go_wp2_with (first
    | (refine wpList_load_row rfl 31 (.tmp 3) rfl g rfl 31 C (0, 0) _ HB5.out.2.2.1 Tryz.underlying31 rfl Hi.out.1 ?_)
    | (refine wpList_store_mid rfl 31 (.tmp 2) (.tmp 81) rfl (w.heap.size + 1) 0 C rfl rfl (HB5.out.2.1.there (by rw [Hi.out.2.2]; decide)) Hi.out.1 Hi.out.2.1 ?_))
  exact bodyPost_ret (results_cell_row rfl _ _ (w.heap.size + 1) 31 C (0, 0) _ rfl (HB5.out.2.1.setAll C Hi.out.2.2) Tryz.underlying31 rfl Hi.out.1) rfl ⟨by rw [← HCC.out], below_sets (by omega) _ _ _ HB5.out.2.2.2.1⟩

set_option maxRecDepth 100000 in
set_option maxHeartbeats 2000000 in
theorem emade_1_2 (off sv at_ : Int) (kd st fm pt yr mo bs dk dw dd : Nat) (m1 m2 m3 : Int) (sF sS : ByteArray) (w : World) (h1 : -2147483648 ≤ off ∧ off ≤ 2147483647) (h2 : -2147483648 ≤ sv ∧ sv ≤ 2147483647) (b1 : kd < 256) (b2 : st < 256) (b3 : fm < 256) (b4 : pt < 256) (b5 : yr < 65536) (b6 : mo < 256)
    (hk : kd % 3 = 1) (hp : pt % 5 = 2) (hF : efmtM fm = sF.data.toList) (hS : esetM st = sS.data.toList)
    (H2 : Hid (∀ W, Calls Tryz.prog 35 #[.agg #[.int .u8 (dk : Int), .int .u8 (dw : Int), .int .u8 (dd : Int)]] W fun e w' => e = .returned (.agg #[.int .i64 m1, .int .i64 m2, .int .i64 m3]) ∧ Below W.heap.size W w'))
    (H6 : Hid (∀ W, Calls Tryz.prog 36 #[.int .i32 at_, .int .u8 (bs : Int)] W fun e w' => e = .returned (.agg #[.int .i64 (at_.tmod 604800), .int .i64 ((bs : Int) % 3)]) ∧ Below W.heap.size W w')) :
    Calls Tryz.prog 15 #[.agg #[.int .i32 off, .int .i32 sv, .int .i32 at_, .int .u8 (kd : Int), .int .u8 (st : Int), .int .u8 (fm : Int), .int .u8 (pt : Int), .int .u16 (yr : Int), .int .u8 (mo : Int), .int .u8 (bs : Int), .int .u8 (dk : Int), .int .u8 (dw : Int), .int .u8 (dd : Int)]] w fun e w' => e = .returned (.agg #[.int .i64 (off.tmod 604800), .int .i64 ((kd : Int) % 3), .int .i64 (sv.tmod 604800), .string ⟨#[]⟩, .string sF, .bool true, .int .i64 (1850 + (yr : Int) % 300), .int .i64 (1 + (mo : Int) % 12), .int .i64 1, .int .i64 0, .int .i64 1, .int .i64 0, .int .i64 0]) ∧ Below w.heap.size w w' := by
  obtain ⟨h1a, h1b⟩ := h1
  obtain ⟨h2a, h2b⟩ := h2
  obtain ⟨i, hi⟩ : ∃ i, fm % 8 = i := ⟨_, rfl⟩
  obtain ⟨j, hj⟩ : ∃ j, st % 4 = j := ⟨_, rfl⟩
  have hi8 : i < 8 := by omega
  have hj4 : j < 4 := by omega
  have Hc1 := Lib.hid (show ∀ W g, Blk W g 9 #[.string ⟨#[71, 77, 84]⟩, .string ⟨#[65, 47, 66]⟩, .string ⟨#[37, 115]⟩, .string ⟨#[37, 122]⟩, .string ⟨#[43, 48, 53]⟩, .string ⟨#[43, 48, 53, 47, 43, 48, 54]⟩, .string ⟨#[67, 37, 115, 84]⟩, .string ⟨#[45, 48, 48]⟩] → W.cell? ⟨g, i, none⟩ = some (.string sF) from fun W g h => h.cell_ (by
    rw [show sF = ⟨(efmtM fm).toArray⟩ by rw [hF, ba_list], efmtM, hi]
    rcases (by omega : i = 0 ∨ i = 1 ∨ i = 2 ∨ i = 3 ∨ i = 4 ∨ i = 5 ∨ i = 6 ∨ i = 7) with h | h | h | h | h | h | h | h <;> subst h <;> rfl))
  have Hc2 := Lib.hid (show ∀ W g, Blk W g 9 #[.string ⟨#[69, 105, 114, 101]⟩, .string ⟨#[82]⟩, .string ⟨#[67, 45, 69, 117, 114]⟩, .string ⟨#[97, 95, 49]⟩] → W.cell? ⟨g, j, none⟩ = some (.string sS) from fun W g h => h.cell_ (by
    rw [show sS = ⟨(esetM st).toArray⟩ by rw [hS, ba_list], esetM, hj]
    rcases (by omega : j = 0 ∨ j = 1 ∨ j = 2 ∨ j = 3) with h | h | h | h <;> subst h <;> rfl))
  have htm : ∀ (a : Nat) (b : Int), (a : Int).tmod b = (a : Int) % b := fun a b => Int.tmod_eq_emod_of_nonneg (by omega)
  have hw1 : IntKind.i64.wrap off = off := IntWalk.i64_in _ (by omega)
  have hw2 : IntKind.i64.wrap sv = sv := IntWalk.i64_in _ (by omega)
  have hw3 : IntKind.i64.wrap ((kd : Int) % 3) = (kd : Int) % 3 := IntWalk.i64_in _ (by omega)
  have hiA : (0 : Int) ≤ (i : Int) := by omega
  have hiB : (i : Int) < 8 := by omega
  have hjA : (0 : Int) ≤ (j : Int) := by omega
  have hjB : (j : Int) < 4 := by omega
  have hiI : (fm : Int) % 8 = (i : Int) := by omega
  have hjI : (st : Int) % 4 = (j : Int) := by omega
  have e1 : ((kd : Int) % 3 == 1) = true := by rw [beq_iff_eq]; omega
  have e2 : ((kd : Int) % 3 == 2) = false := by rw [beq_eq_false_iff_ne]; omega
  have p0 : ((pt : Int) % 5 == 0) = false := by rw [beq_eq_false_iff_ne]; omega
  have g1 : decide (1 < (pt : Int) % 5) = true := decide_eq_true (by omega)
  have g2 : decide (2 < (pt : Int) % 5) = false := decide_eq_false (by omega)
  have g3 : decide (3 < (pt : Int) % 5) = false := decide_eq_false (by omega)
  clear hk hp hF hS hi hj hi8 hj4
  go_enter Tryz.func15, Tryz.ntmps15
  go_upto_region 1 with fail
  have HG : EHeld w off sv at_ kd st fm pt yr mo bs dk dw dd ((w.alloc (.cells #[.int .i32 off, .int .i32 sv, .int .i32 at_, .int .u8 (kd : Int), .int .u8 (st : Int), .int .u8 (fm : Int), .int .u8 (pt : Int), .int .u16 (yr : Int), .int .u8 (mo : Int), .int .u8 (bs : Int), .int .u8 (dk : Int), .int .u8 (dw : Int), .int .u8 (dd : Int)] 43)).alloc (.cells #[.int .i64 0, .int .i64 0, .int .i64 0, .string ⟨#[]⟩, .string ⟨#[]⟩, .bool false, .int .i64 0, .int .i64 0, .int .i64 0, .int .i64 0, .int .i64 0, .int .i64 0, .int .i64 0] 31)) := ⟨(Blk.new' _ _ _ rfl).alloc _, Blk.new' _ _ _ (by simp), by go_grown⟩
  refine wp_region_rels 16 [[], [], [], [], [], [], [], [], [], [], [], [], [8], [12], [], []] [Form.val, Form.val, Form.val, Form.val, Form.val, Form.val, Form.val, Form.val, Form.rel (TabIs 8 #[.string ⟨#[71, 77, 84]⟩, .string ⟨#[65, 47, 66]⟩, .string ⟨#[37, 115]⟩, .string ⟨#[37, 122]⟩, .string ⟨#[43, 48, 53]⟩, .string ⟨#[43, 48, 53, 47, 43, 48, 54]⟩, .string ⟨#[67, 37, 115, 84]⟩, .string ⟨#[45, 48, 48]⟩]), Form.val, Form.val, Form.val, Form.rel (PtrIs i #[.string ⟨#[71, 77, 84]⟩, .string ⟨#[65, 47, 66]⟩, .string ⟨#[37, 115]⟩, .string ⟨#[37, 122]⟩, .string ⟨#[43, 48, 53]⟩, .string ⟨#[43, 48, 53, 47, 43, 48, 54]⟩, .string ⟨#[67, 37, 115, 84]⟩, .string ⟨#[45, 48, 48]⟩]), Form.val, Form.val, Form.rel (NewEra (w.heap.size + 2))] (EHeld w off sv at_ kd st fm pt yr mo bs dk dw dd) (by kernel_rfl) (by kernel_rfl) rfl rfl (⟨HG.1, HG.2.1, HG.2.2.drew⟩) (fun W W' h hb => ⟨h.1.below hb h.1.lt, h.2.1.below hb h.2.1.lt, h.2.2.trans (hb.mono h.2.2.size)⟩) ⟨TabIs.lasts _ _, PtrIs.lasts _ _, NewEra.lasts _, trivial⟩ ?_
  repeat (first | apply exSpec_rel | apply exSpec_new | apply exSpec_val)
  apply relWalk_ex rfl ?o0 (fun K hK => ?n0)
  case o0 =>
    intro W hC hF
    obtain ⟨q0, q1, q2, q3, q4, q5, q6, q7, q8, q9, q10, q11, q12⟩ := hC.cells
    go_simp
    all_goals exact ⟨Below.refl _ _, rfl⟩
  case' n0 =>
    go_simp
    refine hK _ ?_
    clear hK K
  apply relWalk_ex rfl ?o1 (fun K hK => ?n1)
  case o1 =>
    intro W hC hF
    obtain ⟨q0, q1, q2, q3, q4, q5, q6, q7, q8, q9, q10, q11, q12⟩ := hC.cells
    go_simp
    all_goals exact ⟨Below.refl _ _, rfl⟩
  case' n1 =>
    go_simp
    refine hK _ ?_
    clear hK K
  apply relWalk_ex rfl ?o2 (fun K hK => ?n2)
  case o2 =>
    intro W hC hF
    obtain ⟨q0, q1, q2, q3, q4, q5, q6, q7, q8, q9, q10, q11, q12⟩ := hC.cells
    go_simp
    all_goals exact ⟨Below.refl _ _, rfl⟩
  case' n2 =>
    go_simp
    refine hK _ ?_
    clear hK K
  apply relWalk_ex rfl ?o3 (fun K hK => ?n3)
  case o3 =>
    intro W hC hF
    obtain ⟨q0, q1, q2, q3, q4, q5, q6, q7, q8, q9, q10, q11, q12⟩ := hC.cells
    go_simp
    all_goals exact ⟨Below.refl _ _, rfl⟩
  case' n3 =>
    go_simp
    refine hK _ ?_
    clear hK K
  apply relWalk_ex rfl ?o4 (fun K hK => ?n4)
  case o4 =>
    intro W hC hF
    obtain ⟨q0, q1, q2, q3, q4, q5, q6, q7, q8, q9, q10, q11, q12⟩ := hC.cells
    go_simp
    all_goals exact ⟨Below.refl _ _, rfl⟩
  case' n4 =>
    go_simp
    refine hK _ ?_
    clear hK K
  apply relWalk_ex rfl ?o5 (fun K hK => ?n5)
  case o5 =>
    intro W hC hF
    obtain ⟨q0, q1, q2, q3, q4, q5, q6, q7, q8, q9, q10, q11, q12⟩ := hC.cells
    go_simp
    all_goals exact ⟨Below.refl _ _, rfl⟩
  case' n5 =>
    go_simp
    refine hK _ ?_
    clear hK K
  apply relWalk_ex rfl ?o6 (fun K hK => ?n6)
  case o6 =>
    intro W hC hF
    obtain ⟨q0, q1, q2, q3, q4, q5, q6, q7, q8, q9, q10, q11, q12⟩ := hC.cells
    go_simp
    all_goals exact ⟨Below.refl _ _, rfl⟩
  case' n6 =>
    go_simp
    refine hK _ ?_
    clear hK K
  apply relWalk_ex rfl ?o7 (fun K hK => ?n7)
  case o7 =>
    intro W hC hF
    obtain ⟨q0, q1, q2, q3, q4, q5, q6, q7, q8, q9, q10, q11, q12⟩ := hC.cells
    go_simp
    all_goals exact ⟨Below.refl _ _, rfl⟩
  case' n7 =>
    go_simp
    refine hK _ ?_
    clear hK K
  apply relWalk_rel rfl ?o8 (fun u8 K hK => ?n8)
  case o8 =>
    intro W hC hF
    obtain ⟨q0, q1, q2, q3, q4, q5, q6, q7, q8, q9, q10, q11, q12⟩ := hC.cells
    go_simp
    all_goals exact ⟨by go_grown, _, rfl, Blk.new _ _ _⟩
  case' n8 =>
    go_simp
    refine hK _ ?_
    clear hK K
  apply relWalk_ex rfl ?o9 (fun K hK => ?n9)
  case o9 =>
    intro W hC hF
    obtain ⟨q0, q1, q2, q3, q4, q5, q6, q7, q8, q9, q10, q11, q12⟩ := hC.cells
    go_simp
    all_goals exact ⟨Below.refl _ _, rfl⟩
  case' n9 =>
    go_simp
    refine hK _ ?_
    clear hK K
  apply relWalk_ex rfl ?o10 (fun K hK => ?n10)
  case o10 =>
    intro W hC hF
    obtain ⟨q0, q1, q2, q3, q4, q5, q6, q7, q8, q9, q10, q11, q12⟩ := hC.cells
    go_simp
    all_goals exact ⟨Below.refl _ _, rfl⟩
  case' n10 =>
    go_simp
    refine hK _ ?_
    clear hK K
  apply relWalk_ex rfl ?o11 (fun K hK => ?n11)
  case o11 =>
    intro W hC hF
    obtain ⟨q0, q1, q2, q3, q4, q5, q6, q7, q8, q9, q10, q11, q12⟩ := hC.cells
    go_simp
    all_goals exact ⟨Below.refl _ _, rfl⟩
  case' n11 =>
    go_simp
    refine hK _ ?_
    clear hK K
  apply relWalk_rel rfl ?o12 (fun u12 K hK => ?n12)
  case o12 =>
    intro W hC hF
    obtain ⟨⟨g, rfl, hB⟩, -⟩ := hF
    obtain ⟨q0, q1, q2, q3, q4, q5, q6, q7, q8, q9, q10, q11, q12⟩ := hC.cells
    go_simp
    all_goals exact ⟨by go_grown, g, rfl, hB⟩
  case' n12 =>
    go_simp
    refine hK _ ?_
    clear hK K
  apply relWalk_ex rfl ?o13 (fun K hK => ?n13)
  case o13 =>
    intro W hC hF
    obtain ⟨⟨g, rfl, hB⟩, -⟩ := hF
    have hx : W.cell? ⟨g, i, none⟩ = some (.string sF) := Hc1.out W g hB
    obtain ⟨q0, q1, q2, q3, q4, q5, q6, q7, q8, q9, q10, q11, q12⟩ := hC.cells
    go_simp
    all_goals exact ⟨Below.refl _ _, rfl⟩
  case' n13 =>
    go_simp
    refine hK _ ?_
    clear hK K
  apply relWalk_ex rfl ?o14 (fun K hK => ?n14)
  case o14 =>
    intro W hC hF
    obtain ⟨q0, q1, q2, q3, q4, q5, q6, q7, q8, q9, q10, q11, q12⟩ := hC.cells
    go_simp
    all_goals exact ⟨Below.refl _ _, rfl⟩
  case' n14 =>
    go_simp
    refine hK _ ?_
    clear hK K
  apply relWalk_rel rfl ?o15 (fun u15 K hK => ?n15)
  case o15 =>
    intro W hC hF
    obtain ⟨q0, q1, q2, q3, q4, q5, q6, q7, q8, q9, q10, q11, q12⟩ := hC.cells
    go_simp
    all_goals exact ⟨by go_grown, _, rfl, hC.2.1.lt, Blk.new _ _ _⟩
  case' n15 =>
    go_simp
    refine hK _ ?_
    clear hK K
  apply relWalk_end
  intro W hC hF hU
  obtain ⟨⟨g, rfl, hg, hB⟩, -⟩ := hF
  obtain ⟨hD, hZ, hb⟩ := hC
  refine wpList_store_mid rfl 31 (.tmp 3) (.tmp 18) rfl g 0 #[.int .i64 (off.tmod 604800), .int .i64 ((kd : Int) % 3), .int .i64 0, .string ⟨#[]⟩, .string sF, .bool false, .int .i64 0, .int .i64 0, .int .i64 0, .int .i64 0, .int .i64 0, .int .i64 0, .int .i64 0] rfl rfl (hB.there (Nat.le_refl _)) infoEra (by simp [Value.oneCell']) ?_
  have HB2 := Lib.hid (show Blk (W.setCells g 0 #[.int .i64 (off.tmod 604800), .int .i64 ((kd : Int) % 3), .int .i64 0, .string ⟨#[]⟩, .string sF, .bool false, .int .i64 0, .int .i64 0, .int .i64 0, .int .i64 0, .int .i64 0, .int .i64 0, .int .i64 0].toList) w.heap.size 43 #[.int .i32 off, .int .i32 sv, .int .i32 at_, .int .u8 (kd : Int), .int .u8 (st : Int), .int .u8 (fm : Int), .int .u8 (pt : Int), .int .u16 (yr : Int), .int .u8 (mo : Int), .int .u8 (bs : Int), .int .u8 (dk : Int), .int .u8 (dw : Int), .int .u8 (dd : Int)] ∧ Blk (W.setCells g 0 #[.int .i64 (off.tmod 604800), .int .i64 ((kd : Int) % 3), .int .i64 0, .string ⟨#[]⟩, .string sF, .bool false, .int .i64 0, .int .i64 0, .int .i64 0, .int .i64 0, .int .i64 0, .int .i64 0, .int .i64 0].toList) (w.heap.size + 1) 31 #[.int .i64 0, .int .i64 0, .int .i64 0, .string ⟨#[]⟩, .string ⟨#[]⟩, .bool false, .int .i64 0, .int .i64 0, .int .i64 0, .int .i64 0, .int .i64 0, .int .i64 0, .int .i64 0] ∧ Blk (W.setCells g 0 #[.int .i64 (off.tmod 604800), .int .i64 ((kd : Int) % 3), .int .i64 0, .string ⟨#[]⟩, .string sF, .bool false, .int .i64 0, .int .i64 0, .int .i64 0, .int .i64 0, .int .i64 0, .int .i64 0, .int .i64 0].toList) g 31 #[.int .i64 (off.tmod 604800), .int .i64 ((kd : Int) % 3), .int .i64 0, .string ⟨#[]⟩, .string sF, .bool false, .int .i64 0, .int .i64 0, .int .i64 0, .int .i64 0, .int .i64 0, .int .i64 0, .int .i64 0] ∧ Below w.heap.size w (W.setCells g 0 #[.int .i64 (off.tmod 604800), .int .i64 ((kd : Int) % 3), .int .i64 0, .string ⟨#[]⟩, .string sF, .bool false, .int .i64 0, .int .i64 0, .int .i64 0, .int .i64 0, .int .i64 0, .int .i64 0, .int .i64 0].toList) ∧ w.heap.size + 2 ≤ g from ⟨Blk.farSets hD (by omega) _ _, Blk.farSets hZ (by omega) _ _, hB.setAll #[.int .i64 (off.tmod 604800), .int .i64 ((kd : Int) % 3), .int .i64 0, .string ⟨#[]⟩, .string sF, .bool false, .int .i64 0, .int .i64 0, .int .i64 0, .int .i64 0, .int .i64 0, .int .i64 0, .int .i64 0] rfl, below_sets (by omega) _ _ _ hb, hg⟩)
  clear hU hD hZ hb hB hg HG htm hw1 hw3 Hc1 hiA hiB hiI
  generalize W.setCells g 0 #[.int .i64 (off.tmod 604800), .int .i64 ((kd : Int) % 3), .int .i64 0, .string ⟨#[]⟩, .string sF, .bool false, .int .i64 0, .int .i64 0, .int .i64 0, .int .i64 0, .int .i64 0, .int .i64 0, .int .i64 0].toList = w2 at *
  have k1 : w2.cell? ⟨g, 1, none⟩ = some (.int .i64 ((kd : Int) % 3)) := HB2.out.2.2.1.cell_ rfl
  have t1 : w2.cell? ⟨w.heap.size, 1, none⟩ = some (.int .i32 sv) := HB2.out.1.cell_ rfl
  have t6 : w2.cell? ⟨w.heap.size, 6, none⟩ = some (.int .u8 (pt : Int)) := HB2.out.1.cell_ rfl
  have q2 : w2.cell? ⟨g, 2, none⟩ = some (.int .i64 0) := HB2.out.2.2.1.cell_ rfl
  have f2 := HB2.out.2.2.1.frozen 2
  have hlt := HB2.out.2.2.1.lt
  obtain ⟨w3, hw3⟩ : ∃ W, (w2.setCell ⟨g, 2, none⟩ (.int .i64 (sv.tmod 604800))) = W := ⟨_, rfl⟩
  have HB3 := Lib.hid (show Blk w3 w.heap.size 43 #[.int .i32 off, .int .i32 sv, .int .i32 at_, .int .u8 (kd : Int), .int .u8 (st : Int), .int .u8 (fm : Int), .int .u8 (pt : Int), .int .u16 (yr : Int), .int .u8 (mo : Int), .int .u8 (bs : Int), .int .u8 (dk : Int), .int .u8 (dw : Int), .int .u8 (dd : Int)] ∧ Blk w3 (w.heap.size + 1) 31 #[.int .i64 0, .int .i64 0, .int .i64 0, .string ⟨#[]⟩, .string ⟨#[]⟩, .bool false, .int .i64 0, .int .i64 0, .int .i64 0, .int .i64 0, .int .i64 0, .int .i64 0, .int .i64 0] ∧ Blk w3 g 31 #[.int .i64 (off.tmod 604800), .int .i64 ((kd : Int) % 3), .int .i64 (sv.tmod 604800), .string ⟨#[]⟩, .string sF, .bool false, .int .i64 0, .int .i64 0, .int .i64 0, .int .i64 0, .int .i64 0, .int .i64 0, .int .i64 0] ∧ Below w.heap.size w w3 ∧ w.heap.size + 2 ≤ g from by
    rw [← hw3]
    have hg := HB2.out.2.2.2.2
    exact ⟨Blk.farSets HB2.out.1 (by omega) [.int .i64 (sv.tmod 604800)] 2, Blk.farSets HB2.out.2.1 (by omega) [.int .i64 (sv.tmod 604800)] 2, Blk.setMid [.int .i64 (off.tmod 604800), .int .i64 ((kd : Int) % 3)] [.int .i64 0] [.int .i64 (sv.tmod 604800)] [.string ⟨#[]⟩, .string sF, .bool false, .int .i64 0, .int .i64 0, .int .i64 0, .int .i64 0, .int .i64 0, .int .i64 0, .int .i64 0] HB2.out.2.2.1 rfl, below_sets (by omega) [.int .i64 (sv.tmod 604800)] 2 _ HB2.out.2.2.2.1, hg⟩)
  go_upto_region 7 with fail
  try simp only [hw3]
  clear hw3 HB2 q2 f2 hlt t1 t6 k1
  have t6 : w3.cell? ⟨w.heap.size, 6, none⟩ = some (.int .u8 (pt : Int)) := HB3.out.1.cell_ rfl
  have t7 : w3.cell? ⟨w.heap.size, 7, none⟩ = some (.int .u16 (yr : Int)) := HB3.out.1.cell_ rfl
  go_wp2_with fail
  refine (until_any _ _ _ _ _ _).mono ?_
  rintro e w4 ⟨rfl, hb⟩
  have HB4 := Lib.hid (show Blk w4 w.heap.size 43 #[.int .i32 off, .int .i32 sv, .int .i32 at_, .int .u8 (kd : Int), .int .u8 (st : Int), .int .u8 (fm : Int), .int .u8 (pt : Int), .int .u16 (yr : Int), .int .u8 (mo : Int), .int .u8 (bs : Int), .int .u8 (dk : Int), .int .u8 (dw : Int), .int .u8 (dd : Int)] ∧ Blk w4 (w.heap.size + 1) 31 #[.int .i64 0, .int .i64 0, .int .i64 0, .string ⟨#[]⟩, .string ⟨#[]⟩, .bool false, .int .i64 0, .int .i64 0, .int .i64 0, .int .i64 0, .int .i64 0, .int .i64 0, .int .i64 0] ∧ Blk w4 g 31 #[.int .i64 (off.tmod 604800), .int .i64 ((kd : Int) % 3), .int .i64 (sv.tmod 604800), .string ⟨#[]⟩, .string sF, .bool false, .int .i64 0, .int .i64 0, .int .i64 0, .int .i64 0, .int .i64 0, .int .i64 0, .int .i64 0] ∧ Below w.heap.size w w4 ∧ w.heap.size + 2 ≤ g from ⟨HB3.out.1.below hb HB3.out.1.lt, HB3.out.2.1.below hb HB3.out.2.1.lt, HB3.out.2.2.1.below hb HB3.out.2.2.1.lt, HB3.out.2.2.2.1.trans (hb.mono HB3.out.2.2.2.1.size), HB3.out.2.2.2.2⟩)
  clear hb HB3 t6 t7
  have q5 : w4.cell? ⟨g, 5, none⟩ = some (.bool false) := HB4.out.2.2.1.cell_ rfl
  have f5 := HB4.out.2.2.1.frozen 5
  have q6 : w4.cell? ⟨g, 6, none⟩ = some (.int .i64 0) := HB4.out.2.2.1.cell_ rfl
  have f6 := HB4.out.2.2.1.frozen 6
  have q7 : w4.cell? ⟨g, 7, none⟩ = some (.int .i64 0) := HB4.out.2.2.1.cell_ rfl
  have f7 := HB4.out.2.2.1.frozen 7
  have q8 : w4.cell? ⟨g, 8, none⟩ = some (.int .i64 0) := HB4.out.2.2.1.cell_ rfl
  have f8 := HB4.out.2.2.1.frozen 8
  have q9 : w4.cell? ⟨g, 9, none⟩ = some (.int .i64 0) := HB4.out.2.2.1.cell_ rfl
  have f9 := HB4.out.2.2.1.frozen 9
  have q10 : w4.cell? ⟨g, 10, none⟩ = some (.int .i64 0) := HB4.out.2.2.1.cell_ rfl
  have f10 := HB4.out.2.2.1.frozen 10
  have q11 : w4.cell? ⟨g, 11, none⟩ = some (.int .i64 0) := HB4.out.2.2.1.cell_ rfl
  have f11 := HB4.out.2.2.1.frozen 11
  have q12 : w4.cell? ⟨g, 12, none⟩ = some (.int .i64 0) := HB4.out.2.2.1.cell_ rfl
  have f12 := HB4.out.2.2.1.frozen 12
  have hlt := HB4.out.2.2.1.lt
  obtain ⟨w5, hw5⟩ : ∃ W, ((((((((w4.setCell ⟨g, 5, none⟩ (.bool true)).setCell ⟨g, 6, none⟩ (.int .i64 (1850 + (yr : Int) % 300))).setCell ⟨g, 7, none⟩ (.int .i64 1)).setCell ⟨g, 8, none⟩ (.int .i64 1)).setCell ⟨g, 9, none⟩ (.int .i64 0)).setCell ⟨g, 10, none⟩ (.int .i64 1)).setCell ⟨g, 11, none⟩ (.int .i64 0)).setCell ⟨g, 12, none⟩ (.int .i64 0)) = W := ⟨_, rfl⟩
  have HB5 := Lib.hid (show Blk w5 w.heap.size 43 #[.int .i32 off, .int .i32 sv, .int .i32 at_, .int .u8 (kd : Int), .int .u8 (st : Int), .int .u8 (fm : Int), .int .u8 (pt : Int), .int .u16 (yr : Int), .int .u8 (mo : Int), .int .u8 (bs : Int), .int .u8 (dk : Int), .int .u8 (dw : Int), .int .u8 (dd : Int)] ∧ Blk w5 (w.heap.size + 1) 31 #[.int .i64 0, .int .i64 0, .int .i64 0, .string ⟨#[]⟩, .string ⟨#[]⟩, .bool false, .int .i64 0, .int .i64 0, .int .i64 0, .int .i64 0, .int .i64 0, .int .i64 0, .int .i64 0] ∧ Blk w5 g 31 #[.int .i64 (off.tmod 604800), .int .i64 ((kd : Int) % 3), .int .i64 (sv.tmod 604800), .string ⟨#[]⟩, .string sF, .bool true, .int .i64 (1850 + (yr : Int) % 300), .int .i64 1, .int .i64 1, .int .i64 0, .int .i64 1, .int .i64 0, .int .i64 0] ∧ Below w.heap.size w w5 ∧ w.heap.size + 2 ≤ g from by
    rw [← hw5]
    have hg := HB4.out.2.2.2.2
    exact ⟨Blk.farSets HB4.out.1 (by omega) [.bool true, .int .i64 (1850 + (yr : Int) % 300), .int .i64 1, .int .i64 1, .int .i64 0, .int .i64 1, .int .i64 0, .int .i64 0] 5, Blk.farSets HB4.out.2.1 (by omega) [.bool true, .int .i64 (1850 + (yr : Int) % 300), .int .i64 1, .int .i64 1, .int .i64 0, .int .i64 1, .int .i64 0, .int .i64 0] 5, Blk.setMid [.int .i64 (off.tmod 604800), .int .i64 ((kd : Int) % 3), .int .i64 (sv.tmod 604800), .string ⟨#[]⟩, .string sF] [.bool false, .int .i64 0, .int .i64 0, .int .i64 0, .int .i64 0, .int .i64 0, .int .i64 0, .int .i64 0] [.bool true, .int .i64 (1850 + (yr : Int) % 300), .int .i64 1, .int .i64 1, .int .i64 0, .int .i64 1, .int .i64 0, .int .i64 0] [] HB4.out.2.2.1 rfl, below_sets (by omega) [.bool true, .int .i64 (1850 + (yr : Int) % 300), .int .i64 1, .int .i64 1, .int .i64 0, .int .i64 1, .int .i64 0, .int .i64 0] 5 _ HB4.out.2.2.2.1, hg⟩)
  go_upto_region 10 with fail
  try simp only [hw5]
  clear hw5 HB4 q5 f5 q6 f6 q7 f7 q8 f8 q9 f9 q10 f10 q11 f11 q12 f12 hlt
  have t6 : w5.cell? ⟨w.heap.size, 6, none⟩ = some (.int .u8 (pt : Int)) := HB5.out.1.cell_ rfl
  have t8 : w5.cell? ⟨w.heap.size, 8, none⟩ = some (.int .u8 (mo : Int)) := HB5.out.1.cell_ rfl
  have q7 : w5.cell? ⟨g, 7, none⟩ = some (.int .i64 1) := HB5.out.2.2.1.cell_ rfl
  have f7 := HB5.out.2.2.1.frozen 7
  have hlt := HB5.out.2.2.1.lt
  obtain ⟨w6, hw6⟩ : ∃ W, (w5.setCell ⟨g, 7, none⟩ (.int .i64 (1 + (mo : Int) % 12))) = W := ⟨_, rfl⟩
  have HB6 := Lib.hid (show Blk w6 w.heap.size 43 #[.int .i32 off, .int .i32 sv, .int .i32 at_, .int .u8 (kd : Int), .int .u8 (st : Int), .int .u8 (fm : Int), .int .u8 (pt : Int), .int .u16 (yr : Int), .int .u8 (mo : Int), .int .u8 (bs : Int), .int .u8 (dk : Int), .int .u8 (dw : Int), .int .u8 (dd : Int)] ∧ Blk w6 (w.heap.size + 1) 31 #[.int .i64 0, .int .i64 0, .int .i64 0, .string ⟨#[]⟩, .string ⟨#[]⟩, .bool false, .int .i64 0, .int .i64 0, .int .i64 0, .int .i64 0, .int .i64 0, .int .i64 0, .int .i64 0] ∧ Blk w6 g 31 #[.int .i64 (off.tmod 604800), .int .i64 ((kd : Int) % 3), .int .i64 (sv.tmod 604800), .string ⟨#[]⟩, .string sF, .bool true, .int .i64 (1850 + (yr : Int) % 300), .int .i64 (1 + (mo : Int) % 12), .int .i64 1, .int .i64 0, .int .i64 1, .int .i64 0, .int .i64 0] ∧ Below w.heap.size w w6 ∧ w.heap.size + 2 ≤ g from by
    rw [← hw6]
    have hg := HB5.out.2.2.2.2
    exact ⟨Blk.farSets HB5.out.1 (by omega) [.int .i64 (1 + (mo : Int) % 12)] 7, Blk.farSets HB5.out.2.1 (by omega) [.int .i64 (1 + (mo : Int) % 12)] 7, Blk.setMid [.int .i64 (off.tmod 604800), .int .i64 ((kd : Int) % 3), .int .i64 (sv.tmod 604800), .string ⟨#[]⟩, .string sF, .bool true, .int .i64 (1850 + (yr : Int) % 300)] [.int .i64 1] [.int .i64 (1 + (mo : Int) % 12)] [.int .i64 1, .int .i64 0, .int .i64 1, .int .i64 0, .int .i64 0] HB5.out.2.2.1 rfl, below_sets (by omega) [.int .i64 (1 + (mo : Int) % 12)] 7 _ HB5.out.2.2.2.1, hg⟩)
  go_upto_region 12 with fail
  try simp only [hw6]
  clear hw6 HB5 q7 f7 hlt t6 t8
  have t6 : w6.cell? ⟨w.heap.size, 6, none⟩ = some (.int .u8 (pt : Int)) := HB6.out.1.cell_ rfl
  obtain ⟨C, hCC⟩ : ∃ C : Array Value, #[.int .i64 (off.tmod 604800), .int .i64 ((kd : Int) % 3), .int .i64 (sv.tmod 604800), .string ⟨#[]⟩, .string sF, .bool true, .int .i64 (1850 + (yr : Int) % 300), .int .i64 (1 + (mo : Int) % 12), .int .i64 1, .int .i64 0, .int .i64 1, .int .i64 0, .int .i64 0] = C := ⟨_, rfl⟩
  have Hi := Lib.hid (show (Tryz.prog.info? 31).map (·.size) = some C.size ∧ C.all (·.oneCell') = true ∧ C.size = 13 from hCC ▸ ⟨infoEra, by simp [Value.oneCell'], rfl⟩)
  rw [hCC] at HB6
  have HCC := Lib.hid hCC
  clear hCC
  go_wp2_with (first
    | (refine wpList_load_row rfl 31 (.tmp 3) rfl g rfl 31 C (0, 0) _ HB6.out.2.2.1 Tryz.underlying31 rfl Hi.out.1 ?_)
    | (refine wpList_store_mid rfl 31 (.tmp 2) (.tmp 81) rfl (w.heap.size + 1) 0 C rfl rfl (HB6.out.2.1.there (by rw [Hi.out.2.2]; decide)) Hi.out.1 Hi.out.2.1 ?_))
  exact bodyPost_ret (results_cell_row rfl _ _ (w.heap.size + 1) 31 C (0, 0) _ rfl (HB6.out.2.1.setAll C Hi.out.2.2) Tryz.underlying31 rfl Hi.out.1) rfl ⟨by rw [← HCC.out], below_sets (by omega) _ _ _ HB6.out.2.2.2.1⟩

set_option maxRecDepth 100000 in
set_option maxHeartbeats 2000000 in
theorem emade_1_3 (off sv at_ : Int) (kd st fm pt yr mo bs dk dw dd : Nat) (m1 m2 m3 : Int) (sF sS : ByteArray) (w : World) (h1 : -2147483648 ≤ off ∧ off ≤ 2147483647) (h2 : -2147483648 ≤ sv ∧ sv ≤ 2147483647) (b1 : kd < 256) (b2 : st < 256) (b3 : fm < 256) (b4 : pt < 256) (b5 : yr < 65536) (b6 : mo < 256)
    (hk : kd % 3 = 1) (hp : pt % 5 = 3) (hF : efmtM fm = sF.data.toList) (hS : esetM st = sS.data.toList)
    (H2 : Hid (∀ W, Calls Tryz.prog 35 #[.agg #[.int .u8 (dk : Int), .int .u8 (dw : Int), .int .u8 (dd : Int)]] W fun e w' => e = .returned (.agg #[.int .i64 m1, .int .i64 m2, .int .i64 m3]) ∧ Below W.heap.size W w'))
    (H6 : Hid (∀ W, Calls Tryz.prog 36 #[.int .i32 at_, .int .u8 (bs : Int)] W fun e w' => e = .returned (.agg #[.int .i64 (at_.tmod 604800), .int .i64 ((bs : Int) % 3)]) ∧ Below W.heap.size W w')) :
    Calls Tryz.prog 15 #[.agg #[.int .i32 off, .int .i32 sv, .int .i32 at_, .int .u8 (kd : Int), .int .u8 (st : Int), .int .u8 (fm : Int), .int .u8 (pt : Int), .int .u16 (yr : Int), .int .u8 (mo : Int), .int .u8 (bs : Int), .int .u8 (dk : Int), .int .u8 (dw : Int), .int .u8 (dd : Int)]] w fun e w' => e = .returned (.agg #[.int .i64 (off.tmod 604800), .int .i64 ((kd : Int) % 3), .int .i64 (sv.tmod 604800), .string ⟨#[]⟩, .string sF, .bool true, .int .i64 (1850 + (yr : Int) % 300), .int .i64 (1 + (mo : Int) % 12), .int .i64 m1, .int .i64 m2, .int .i64 m3, .int .i64 0, .int .i64 0]) ∧ Below w.heap.size w w' := by
  obtain ⟨h1a, h1b⟩ := h1
  obtain ⟨h2a, h2b⟩ := h2
  obtain ⟨i, hi⟩ : ∃ i, fm % 8 = i := ⟨_, rfl⟩
  obtain ⟨j, hj⟩ : ∃ j, st % 4 = j := ⟨_, rfl⟩
  have hi8 : i < 8 := by omega
  have hj4 : j < 4 := by omega
  have Hc1 := Lib.hid (show ∀ W g, Blk W g 9 #[.string ⟨#[71, 77, 84]⟩, .string ⟨#[65, 47, 66]⟩, .string ⟨#[37, 115]⟩, .string ⟨#[37, 122]⟩, .string ⟨#[43, 48, 53]⟩, .string ⟨#[43, 48, 53, 47, 43, 48, 54]⟩, .string ⟨#[67, 37, 115, 84]⟩, .string ⟨#[45, 48, 48]⟩] → W.cell? ⟨g, i, none⟩ = some (.string sF) from fun W g h => h.cell_ (by
    rw [show sF = ⟨(efmtM fm).toArray⟩ by rw [hF, ba_list], efmtM, hi]
    rcases (by omega : i = 0 ∨ i = 1 ∨ i = 2 ∨ i = 3 ∨ i = 4 ∨ i = 5 ∨ i = 6 ∨ i = 7) with h | h | h | h | h | h | h | h <;> subst h <;> rfl))
  have Hc2 := Lib.hid (show ∀ W g, Blk W g 9 #[.string ⟨#[69, 105, 114, 101]⟩, .string ⟨#[82]⟩, .string ⟨#[67, 45, 69, 117, 114]⟩, .string ⟨#[97, 95, 49]⟩] → W.cell? ⟨g, j, none⟩ = some (.string sS) from fun W g h => h.cell_ (by
    rw [show sS = ⟨(esetM st).toArray⟩ by rw [hS, ba_list], esetM, hj]
    rcases (by omega : j = 0 ∨ j = 1 ∨ j = 2 ∨ j = 3) with h | h | h | h <;> subst h <;> rfl))
  have htm : ∀ (a : Nat) (b : Int), (a : Int).tmod b = (a : Int) % b := fun a b => Int.tmod_eq_emod_of_nonneg (by omega)
  have hw1 : IntKind.i64.wrap off = off := IntWalk.i64_in _ (by omega)
  have hw2 : IntKind.i64.wrap sv = sv := IntWalk.i64_in _ (by omega)
  have hw3 : IntKind.i64.wrap ((kd : Int) % 3) = (kd : Int) % 3 := IntWalk.i64_in _ (by omega)
  have hiA : (0 : Int) ≤ (i : Int) := by omega
  have hiB : (i : Int) < 8 := by omega
  have hjA : (0 : Int) ≤ (j : Int) := by omega
  have hjB : (j : Int) < 4 := by omega
  have hiI : (fm : Int) % 8 = (i : Int) := by omega
  have hjI : (st : Int) % 4 = (j : Int) := by omega
  have e1 : ((kd : Int) % 3 == 1) = true := by rw [beq_iff_eq]; omega
  have e2 : ((kd : Int) % 3 == 2) = false := by rw [beq_eq_false_iff_ne]; omega
  have p0 : ((pt : Int) % 5 == 0) = false := by rw [beq_eq_false_iff_ne]; omega
  have g1 : decide (1 < (pt : Int) % 5) = true := decide_eq_true (by omega)
  have g2 : decide (2 < (pt : Int) % 5) = true := decide_eq_true (by omega)
  have g3 : decide (3 < (pt : Int) % 5) = false := decide_eq_false (by omega)
  clear hk hp hF hS hi hj hi8 hj4
  go_enter Tryz.func15, Tryz.ntmps15
  go_upto_region 1 with fail
  have HG : EHeld w off sv at_ kd st fm pt yr mo bs dk dw dd ((w.alloc (.cells #[.int .i32 off, .int .i32 sv, .int .i32 at_, .int .u8 (kd : Int), .int .u8 (st : Int), .int .u8 (fm : Int), .int .u8 (pt : Int), .int .u16 (yr : Int), .int .u8 (mo : Int), .int .u8 (bs : Int), .int .u8 (dk : Int), .int .u8 (dw : Int), .int .u8 (dd : Int)] 43)).alloc (.cells #[.int .i64 0, .int .i64 0, .int .i64 0, .string ⟨#[]⟩, .string ⟨#[]⟩, .bool false, .int .i64 0, .int .i64 0, .int .i64 0, .int .i64 0, .int .i64 0, .int .i64 0, .int .i64 0] 31)) := ⟨(Blk.new' _ _ _ rfl).alloc _, Blk.new' _ _ _ (by simp), by go_grown⟩
  refine wp_region_rels 16 [[], [], [], [], [], [], [], [], [], [], [], [], [8], [12], [], []] [Form.val, Form.val, Form.val, Form.val, Form.val, Form.val, Form.val, Form.val, Form.rel (TabIs 8 #[.string ⟨#[71, 77, 84]⟩, .string ⟨#[65, 47, 66]⟩, .string ⟨#[37, 115]⟩, .string ⟨#[37, 122]⟩, .string ⟨#[43, 48, 53]⟩, .string ⟨#[43, 48, 53, 47, 43, 48, 54]⟩, .string ⟨#[67, 37, 115, 84]⟩, .string ⟨#[45, 48, 48]⟩]), Form.val, Form.val, Form.val, Form.rel (PtrIs i #[.string ⟨#[71, 77, 84]⟩, .string ⟨#[65, 47, 66]⟩, .string ⟨#[37, 115]⟩, .string ⟨#[37, 122]⟩, .string ⟨#[43, 48, 53]⟩, .string ⟨#[43, 48, 53, 47, 43, 48, 54]⟩, .string ⟨#[67, 37, 115, 84]⟩, .string ⟨#[45, 48, 48]⟩]), Form.val, Form.val, Form.rel (NewEra (w.heap.size + 2))] (EHeld w off sv at_ kd st fm pt yr mo bs dk dw dd) (by kernel_rfl) (by kernel_rfl) rfl rfl (⟨HG.1, HG.2.1, HG.2.2.drew⟩) (fun W W' h hb => ⟨h.1.below hb h.1.lt, h.2.1.below hb h.2.1.lt, h.2.2.trans (hb.mono h.2.2.size)⟩) ⟨TabIs.lasts _ _, PtrIs.lasts _ _, NewEra.lasts _, trivial⟩ ?_
  repeat (first | apply exSpec_rel | apply exSpec_new | apply exSpec_val)
  apply relWalk_ex rfl ?o0 (fun K hK => ?n0)
  case o0 =>
    intro W hC hF
    obtain ⟨q0, q1, q2, q3, q4, q5, q6, q7, q8, q9, q10, q11, q12⟩ := hC.cells
    go_simp
    all_goals exact ⟨Below.refl _ _, rfl⟩
  case' n0 =>
    go_simp
    refine hK _ ?_
    clear hK K
  apply relWalk_ex rfl ?o1 (fun K hK => ?n1)
  case o1 =>
    intro W hC hF
    obtain ⟨q0, q1, q2, q3, q4, q5, q6, q7, q8, q9, q10, q11, q12⟩ := hC.cells
    go_simp
    all_goals exact ⟨Below.refl _ _, rfl⟩
  case' n1 =>
    go_simp
    refine hK _ ?_
    clear hK K
  apply relWalk_ex rfl ?o2 (fun K hK => ?n2)
  case o2 =>
    intro W hC hF
    obtain ⟨q0, q1, q2, q3, q4, q5, q6, q7, q8, q9, q10, q11, q12⟩ := hC.cells
    go_simp
    all_goals exact ⟨Below.refl _ _, rfl⟩
  case' n2 =>
    go_simp
    refine hK _ ?_
    clear hK K
  apply relWalk_ex rfl ?o3 (fun K hK => ?n3)
  case o3 =>
    intro W hC hF
    obtain ⟨q0, q1, q2, q3, q4, q5, q6, q7, q8, q9, q10, q11, q12⟩ := hC.cells
    go_simp
    all_goals exact ⟨Below.refl _ _, rfl⟩
  case' n3 =>
    go_simp
    refine hK _ ?_
    clear hK K
  apply relWalk_ex rfl ?o4 (fun K hK => ?n4)
  case o4 =>
    intro W hC hF
    obtain ⟨q0, q1, q2, q3, q4, q5, q6, q7, q8, q9, q10, q11, q12⟩ := hC.cells
    go_simp
    all_goals exact ⟨Below.refl _ _, rfl⟩
  case' n4 =>
    go_simp
    refine hK _ ?_
    clear hK K
  apply relWalk_ex rfl ?o5 (fun K hK => ?n5)
  case o5 =>
    intro W hC hF
    obtain ⟨q0, q1, q2, q3, q4, q5, q6, q7, q8, q9, q10, q11, q12⟩ := hC.cells
    go_simp
    all_goals exact ⟨Below.refl _ _, rfl⟩
  case' n5 =>
    go_simp
    refine hK _ ?_
    clear hK K
  apply relWalk_ex rfl ?o6 (fun K hK => ?n6)
  case o6 =>
    intro W hC hF
    obtain ⟨q0, q1, q2, q3, q4, q5, q6, q7, q8, q9, q10, q11, q12⟩ := hC.cells
    go_simp
    all_goals exact ⟨Below.refl _ _, rfl⟩
  case' n6 =>
    go_simp
    refine hK _ ?_
    clear hK K
  apply relWalk_ex rfl ?o7 (fun K hK => ?n7)
  case o7 =>
    intro W hC hF
    obtain ⟨q0, q1, q2, q3, q4, q5, q6, q7, q8, q9, q10, q11, q12⟩ := hC.cells
    go_simp
    all_goals exact ⟨Below.refl _ _, rfl⟩
  case' n7 =>
    go_simp
    refine hK _ ?_
    clear hK K
  apply relWalk_rel rfl ?o8 (fun u8 K hK => ?n8)
  case o8 =>
    intro W hC hF
    obtain ⟨q0, q1, q2, q3, q4, q5, q6, q7, q8, q9, q10, q11, q12⟩ := hC.cells
    go_simp
    all_goals exact ⟨by go_grown, _, rfl, Blk.new _ _ _⟩
  case' n8 =>
    go_simp
    refine hK _ ?_
    clear hK K
  apply relWalk_ex rfl ?o9 (fun K hK => ?n9)
  case o9 =>
    intro W hC hF
    obtain ⟨q0, q1, q2, q3, q4, q5, q6, q7, q8, q9, q10, q11, q12⟩ := hC.cells
    go_simp
    all_goals exact ⟨Below.refl _ _, rfl⟩
  case' n9 =>
    go_simp
    refine hK _ ?_
    clear hK K
  apply relWalk_ex rfl ?o10 (fun K hK => ?n10)
  case o10 =>
    intro W hC hF
    obtain ⟨q0, q1, q2, q3, q4, q5, q6, q7, q8, q9, q10, q11, q12⟩ := hC.cells
    go_simp
    all_goals exact ⟨Below.refl _ _, rfl⟩
  case' n10 =>
    go_simp
    refine hK _ ?_
    clear hK K
  apply relWalk_ex rfl ?o11 (fun K hK => ?n11)
  case o11 =>
    intro W hC hF
    obtain ⟨q0, q1, q2, q3, q4, q5, q6, q7, q8, q9, q10, q11, q12⟩ := hC.cells
    go_simp
    all_goals exact ⟨Below.refl _ _, rfl⟩
  case' n11 =>
    go_simp
    refine hK _ ?_
    clear hK K
  apply relWalk_rel rfl ?o12 (fun u12 K hK => ?n12)
  case o12 =>
    intro W hC hF
    obtain ⟨⟨g, rfl, hB⟩, -⟩ := hF
    obtain ⟨q0, q1, q2, q3, q4, q5, q6, q7, q8, q9, q10, q11, q12⟩ := hC.cells
    go_simp
    all_goals exact ⟨by go_grown, g, rfl, hB⟩
  case' n12 =>
    go_simp
    refine hK _ ?_
    clear hK K
  apply relWalk_ex rfl ?o13 (fun K hK => ?n13)
  case o13 =>
    intro W hC hF
    obtain ⟨⟨g, rfl, hB⟩, -⟩ := hF
    have hx : W.cell? ⟨g, i, none⟩ = some (.string sF) := Hc1.out W g hB
    obtain ⟨q0, q1, q2, q3, q4, q5, q6, q7, q8, q9, q10, q11, q12⟩ := hC.cells
    go_simp
    all_goals exact ⟨Below.refl _ _, rfl⟩
  case' n13 =>
    go_simp
    refine hK _ ?_
    clear hK K
  apply relWalk_ex rfl ?o14 (fun K hK => ?n14)
  case o14 =>
    intro W hC hF
    obtain ⟨q0, q1, q2, q3, q4, q5, q6, q7, q8, q9, q10, q11, q12⟩ := hC.cells
    go_simp
    all_goals exact ⟨Below.refl _ _, rfl⟩
  case' n14 =>
    go_simp
    refine hK _ ?_
    clear hK K
  apply relWalk_rel rfl ?o15 (fun u15 K hK => ?n15)
  case o15 =>
    intro W hC hF
    obtain ⟨q0, q1, q2, q3, q4, q5, q6, q7, q8, q9, q10, q11, q12⟩ := hC.cells
    go_simp
    all_goals exact ⟨by go_grown, _, rfl, hC.2.1.lt, Blk.new _ _ _⟩
  case' n15 =>
    go_simp
    refine hK _ ?_
    clear hK K
  apply relWalk_end
  intro W hC hF hU
  obtain ⟨⟨g, rfl, hg, hB⟩, -⟩ := hF
  obtain ⟨hD, hZ, hb⟩ := hC
  refine wpList_store_mid rfl 31 (.tmp 3) (.tmp 18) rfl g 0 #[.int .i64 (off.tmod 604800), .int .i64 ((kd : Int) % 3), .int .i64 0, .string ⟨#[]⟩, .string sF, .bool false, .int .i64 0, .int .i64 0, .int .i64 0, .int .i64 0, .int .i64 0, .int .i64 0, .int .i64 0] rfl rfl (hB.there (Nat.le_refl _)) infoEra (by simp [Value.oneCell']) ?_
  have HB2 := Lib.hid (show Blk (W.setCells g 0 #[.int .i64 (off.tmod 604800), .int .i64 ((kd : Int) % 3), .int .i64 0, .string ⟨#[]⟩, .string sF, .bool false, .int .i64 0, .int .i64 0, .int .i64 0, .int .i64 0, .int .i64 0, .int .i64 0, .int .i64 0].toList) w.heap.size 43 #[.int .i32 off, .int .i32 sv, .int .i32 at_, .int .u8 (kd : Int), .int .u8 (st : Int), .int .u8 (fm : Int), .int .u8 (pt : Int), .int .u16 (yr : Int), .int .u8 (mo : Int), .int .u8 (bs : Int), .int .u8 (dk : Int), .int .u8 (dw : Int), .int .u8 (dd : Int)] ∧ Blk (W.setCells g 0 #[.int .i64 (off.tmod 604800), .int .i64 ((kd : Int) % 3), .int .i64 0, .string ⟨#[]⟩, .string sF, .bool false, .int .i64 0, .int .i64 0, .int .i64 0, .int .i64 0, .int .i64 0, .int .i64 0, .int .i64 0].toList) (w.heap.size + 1) 31 #[.int .i64 0, .int .i64 0, .int .i64 0, .string ⟨#[]⟩, .string ⟨#[]⟩, .bool false, .int .i64 0, .int .i64 0, .int .i64 0, .int .i64 0, .int .i64 0, .int .i64 0, .int .i64 0] ∧ Blk (W.setCells g 0 #[.int .i64 (off.tmod 604800), .int .i64 ((kd : Int) % 3), .int .i64 0, .string ⟨#[]⟩, .string sF, .bool false, .int .i64 0, .int .i64 0, .int .i64 0, .int .i64 0, .int .i64 0, .int .i64 0, .int .i64 0].toList) g 31 #[.int .i64 (off.tmod 604800), .int .i64 ((kd : Int) % 3), .int .i64 0, .string ⟨#[]⟩, .string sF, .bool false, .int .i64 0, .int .i64 0, .int .i64 0, .int .i64 0, .int .i64 0, .int .i64 0, .int .i64 0] ∧ Below w.heap.size w (W.setCells g 0 #[.int .i64 (off.tmod 604800), .int .i64 ((kd : Int) % 3), .int .i64 0, .string ⟨#[]⟩, .string sF, .bool false, .int .i64 0, .int .i64 0, .int .i64 0, .int .i64 0, .int .i64 0, .int .i64 0, .int .i64 0].toList) ∧ w.heap.size + 2 ≤ g from ⟨Blk.farSets hD (by omega) _ _, Blk.farSets hZ (by omega) _ _, hB.setAll #[.int .i64 (off.tmod 604800), .int .i64 ((kd : Int) % 3), .int .i64 0, .string ⟨#[]⟩, .string sF, .bool false, .int .i64 0, .int .i64 0, .int .i64 0, .int .i64 0, .int .i64 0, .int .i64 0, .int .i64 0] rfl, below_sets (by omega) _ _ _ hb, hg⟩)
  clear hU hD hZ hb hB hg HG htm hw1 hw3 Hc1 hiA hiB hiI
  generalize W.setCells g 0 #[.int .i64 (off.tmod 604800), .int .i64 ((kd : Int) % 3), .int .i64 0, .string ⟨#[]⟩, .string sF, .bool false, .int .i64 0, .int .i64 0, .int .i64 0, .int .i64 0, .int .i64 0, .int .i64 0, .int .i64 0].toList = w2 at *
  have k1 : w2.cell? ⟨g, 1, none⟩ = some (.int .i64 ((kd : Int) % 3)) := HB2.out.2.2.1.cell_ rfl
  have t1 : w2.cell? ⟨w.heap.size, 1, none⟩ = some (.int .i32 sv) := HB2.out.1.cell_ rfl
  have t6 : w2.cell? ⟨w.heap.size, 6, none⟩ = some (.int .u8 (pt : Int)) := HB2.out.1.cell_ rfl
  have q2 : w2.cell? ⟨g, 2, none⟩ = some (.int .i64 0) := HB2.out.2.2.1.cell_ rfl
  have f2 := HB2.out.2.2.1.frozen 2
  have hlt := HB2.out.2.2.1.lt
  obtain ⟨w3, hw3⟩ : ∃ W, (w2.setCell ⟨g, 2, none⟩ (.int .i64 (sv.tmod 604800))) = W := ⟨_, rfl⟩
  have HB3 := Lib.hid (show Blk w3 w.heap.size 43 #[.int .i32 off, .int .i32 sv, .int .i32 at_, .int .u8 (kd : Int), .int .u8 (st : Int), .int .u8 (fm : Int), .int .u8 (pt : Int), .int .u16 (yr : Int), .int .u8 (mo : Int), .int .u8 (bs : Int), .int .u8 (dk : Int), .int .u8 (dw : Int), .int .u8 (dd : Int)] ∧ Blk w3 (w.heap.size + 1) 31 #[.int .i64 0, .int .i64 0, .int .i64 0, .string ⟨#[]⟩, .string ⟨#[]⟩, .bool false, .int .i64 0, .int .i64 0, .int .i64 0, .int .i64 0, .int .i64 0, .int .i64 0, .int .i64 0] ∧ Blk w3 g 31 #[.int .i64 (off.tmod 604800), .int .i64 ((kd : Int) % 3), .int .i64 (sv.tmod 604800), .string ⟨#[]⟩, .string sF, .bool false, .int .i64 0, .int .i64 0, .int .i64 0, .int .i64 0, .int .i64 0, .int .i64 0, .int .i64 0] ∧ Below w.heap.size w w3 ∧ w.heap.size + 2 ≤ g from by
    rw [← hw3]
    have hg := HB2.out.2.2.2.2
    exact ⟨Blk.farSets HB2.out.1 (by omega) [.int .i64 (sv.tmod 604800)] 2, Blk.farSets HB2.out.2.1 (by omega) [.int .i64 (sv.tmod 604800)] 2, Blk.setMid [.int .i64 (off.tmod 604800), .int .i64 ((kd : Int) % 3)] [.int .i64 0] [.int .i64 (sv.tmod 604800)] [.string ⟨#[]⟩, .string sF, .bool false, .int .i64 0, .int .i64 0, .int .i64 0, .int .i64 0, .int .i64 0, .int .i64 0, .int .i64 0] HB2.out.2.2.1 rfl, below_sets (by omega) [.int .i64 (sv.tmod 604800)] 2 _ HB2.out.2.2.2.1, hg⟩)
  go_upto_region 7 with fail
  try simp only [hw3]
  clear hw3 HB2 q2 f2 hlt t1 t6 k1
  have t6 : w3.cell? ⟨w.heap.size, 6, none⟩ = some (.int .u8 (pt : Int)) := HB3.out.1.cell_ rfl
  have t7 : w3.cell? ⟨w.heap.size, 7, none⟩ = some (.int .u16 (yr : Int)) := HB3.out.1.cell_ rfl
  go_wp2_with fail
  refine (until_any _ _ _ _ _ _).mono ?_
  rintro e w4 ⟨rfl, hb⟩
  have HB4 := Lib.hid (show Blk w4 w.heap.size 43 #[.int .i32 off, .int .i32 sv, .int .i32 at_, .int .u8 (kd : Int), .int .u8 (st : Int), .int .u8 (fm : Int), .int .u8 (pt : Int), .int .u16 (yr : Int), .int .u8 (mo : Int), .int .u8 (bs : Int), .int .u8 (dk : Int), .int .u8 (dw : Int), .int .u8 (dd : Int)] ∧ Blk w4 (w.heap.size + 1) 31 #[.int .i64 0, .int .i64 0, .int .i64 0, .string ⟨#[]⟩, .string ⟨#[]⟩, .bool false, .int .i64 0, .int .i64 0, .int .i64 0, .int .i64 0, .int .i64 0, .int .i64 0, .int .i64 0] ∧ Blk w4 g 31 #[.int .i64 (off.tmod 604800), .int .i64 ((kd : Int) % 3), .int .i64 (sv.tmod 604800), .string ⟨#[]⟩, .string sF, .bool false, .int .i64 0, .int .i64 0, .int .i64 0, .int .i64 0, .int .i64 0, .int .i64 0, .int .i64 0] ∧ Below w.heap.size w w4 ∧ w.heap.size + 2 ≤ g from ⟨HB3.out.1.below hb HB3.out.1.lt, HB3.out.2.1.below hb HB3.out.2.1.lt, HB3.out.2.2.1.below hb HB3.out.2.2.1.lt, HB3.out.2.2.2.1.trans (hb.mono HB3.out.2.2.2.1.size), HB3.out.2.2.2.2⟩)
  clear hb HB3 t6 t7
  have q5 : w4.cell? ⟨g, 5, none⟩ = some (.bool false) := HB4.out.2.2.1.cell_ rfl
  have f5 := HB4.out.2.2.1.frozen 5
  have q6 : w4.cell? ⟨g, 6, none⟩ = some (.int .i64 0) := HB4.out.2.2.1.cell_ rfl
  have f6 := HB4.out.2.2.1.frozen 6
  have q7 : w4.cell? ⟨g, 7, none⟩ = some (.int .i64 0) := HB4.out.2.2.1.cell_ rfl
  have f7 := HB4.out.2.2.1.frozen 7
  have q8 : w4.cell? ⟨g, 8, none⟩ = some (.int .i64 0) := HB4.out.2.2.1.cell_ rfl
  have f8 := HB4.out.2.2.1.frozen 8
  have q9 : w4.cell? ⟨g, 9, none⟩ = some (.int .i64 0) := HB4.out.2.2.1.cell_ rfl
  have f9 := HB4.out.2.2.1.frozen 9
  have q10 : w4.cell? ⟨g, 10, none⟩ = some (.int .i64 0) := HB4.out.2.2.1.cell_ rfl
  have f10 := HB4.out.2.2.1.frozen 10
  have q11 : w4.cell? ⟨g, 11, none⟩ = some (.int .i64 0) := HB4.out.2.2.1.cell_ rfl
  have f11 := HB4.out.2.2.1.frozen 11
  have q12 : w4.cell? ⟨g, 12, none⟩ = some (.int .i64 0) := HB4.out.2.2.1.cell_ rfl
  have f12 := HB4.out.2.2.1.frozen 12
  have hlt := HB4.out.2.2.1.lt
  obtain ⟨w5, hw5⟩ : ∃ W, ((((((((w4.setCell ⟨g, 5, none⟩ (.bool true)).setCell ⟨g, 6, none⟩ (.int .i64 (1850 + (yr : Int) % 300))).setCell ⟨g, 7, none⟩ (.int .i64 1)).setCell ⟨g, 8, none⟩ (.int .i64 1)).setCell ⟨g, 9, none⟩ (.int .i64 0)).setCell ⟨g, 10, none⟩ (.int .i64 1)).setCell ⟨g, 11, none⟩ (.int .i64 0)).setCell ⟨g, 12, none⟩ (.int .i64 0)) = W := ⟨_, rfl⟩
  have HB5 := Lib.hid (show Blk w5 w.heap.size 43 #[.int .i32 off, .int .i32 sv, .int .i32 at_, .int .u8 (kd : Int), .int .u8 (st : Int), .int .u8 (fm : Int), .int .u8 (pt : Int), .int .u16 (yr : Int), .int .u8 (mo : Int), .int .u8 (bs : Int), .int .u8 (dk : Int), .int .u8 (dw : Int), .int .u8 (dd : Int)] ∧ Blk w5 (w.heap.size + 1) 31 #[.int .i64 0, .int .i64 0, .int .i64 0, .string ⟨#[]⟩, .string ⟨#[]⟩, .bool false, .int .i64 0, .int .i64 0, .int .i64 0, .int .i64 0, .int .i64 0, .int .i64 0, .int .i64 0] ∧ Blk w5 g 31 #[.int .i64 (off.tmod 604800), .int .i64 ((kd : Int) % 3), .int .i64 (sv.tmod 604800), .string ⟨#[]⟩, .string sF, .bool true, .int .i64 (1850 + (yr : Int) % 300), .int .i64 1, .int .i64 1, .int .i64 0, .int .i64 1, .int .i64 0, .int .i64 0] ∧ Below w.heap.size w w5 ∧ w.heap.size + 2 ≤ g from by
    rw [← hw5]
    have hg := HB4.out.2.2.2.2
    exact ⟨Blk.farSets HB4.out.1 (by omega) [.bool true, .int .i64 (1850 + (yr : Int) % 300), .int .i64 1, .int .i64 1, .int .i64 0, .int .i64 1, .int .i64 0, .int .i64 0] 5, Blk.farSets HB4.out.2.1 (by omega) [.bool true, .int .i64 (1850 + (yr : Int) % 300), .int .i64 1, .int .i64 1, .int .i64 0, .int .i64 1, .int .i64 0, .int .i64 0] 5, Blk.setMid [.int .i64 (off.tmod 604800), .int .i64 ((kd : Int) % 3), .int .i64 (sv.tmod 604800), .string ⟨#[]⟩, .string sF] [.bool false, .int .i64 0, .int .i64 0, .int .i64 0, .int .i64 0, .int .i64 0, .int .i64 0, .int .i64 0] [.bool true, .int .i64 (1850 + (yr : Int) % 300), .int .i64 1, .int .i64 1, .int .i64 0, .int .i64 1, .int .i64 0, .int .i64 0] [] HB4.out.2.2.1 rfl, below_sets (by omega) [.bool true, .int .i64 (1850 + (yr : Int) % 300), .int .i64 1, .int .i64 1, .int .i64 0, .int .i64 1, .int .i64 0, .int .i64 0] 5 _ HB4.out.2.2.2.1, hg⟩)
  go_upto_region 10 with fail
  try simp only [hw5]
  clear hw5 HB4 q5 f5 q6 f6 q7 f7 q8 f8 q9 f9 q10 f10 q11 f11 q12 f12 hlt
  have t6 : w5.cell? ⟨w.heap.size, 6, none⟩ = some (.int .u8 (pt : Int)) := HB5.out.1.cell_ rfl
  have t8 : w5.cell? ⟨w.heap.size, 8, none⟩ = some (.int .u8 (mo : Int)) := HB5.out.1.cell_ rfl
  have q7 : w5.cell? ⟨g, 7, none⟩ = some (.int .i64 1) := HB5.out.2.2.1.cell_ rfl
  have f7 := HB5.out.2.2.1.frozen 7
  have hlt := HB5.out.2.2.1.lt
  obtain ⟨w6, hw6⟩ : ∃ W, (w5.setCell ⟨g, 7, none⟩ (.int .i64 (1 + (mo : Int) % 12))) = W := ⟨_, rfl⟩
  have HB6 := Lib.hid (show Blk w6 w.heap.size 43 #[.int .i32 off, .int .i32 sv, .int .i32 at_, .int .u8 (kd : Int), .int .u8 (st : Int), .int .u8 (fm : Int), .int .u8 (pt : Int), .int .u16 (yr : Int), .int .u8 (mo : Int), .int .u8 (bs : Int), .int .u8 (dk : Int), .int .u8 (dw : Int), .int .u8 (dd : Int)] ∧ Blk w6 (w.heap.size + 1) 31 #[.int .i64 0, .int .i64 0, .int .i64 0, .string ⟨#[]⟩, .string ⟨#[]⟩, .bool false, .int .i64 0, .int .i64 0, .int .i64 0, .int .i64 0, .int .i64 0, .int .i64 0, .int .i64 0] ∧ Blk w6 g 31 #[.int .i64 (off.tmod 604800), .int .i64 ((kd : Int) % 3), .int .i64 (sv.tmod 604800), .string ⟨#[]⟩, .string sF, .bool true, .int .i64 (1850 + (yr : Int) % 300), .int .i64 (1 + (mo : Int) % 12), .int .i64 1, .int .i64 0, .int .i64 1, .int .i64 0, .int .i64 0] ∧ Below w.heap.size w w6 ∧ w.heap.size + 2 ≤ g from by
    rw [← hw6]
    have hg := HB5.out.2.2.2.2
    exact ⟨Blk.farSets HB5.out.1 (by omega) [.int .i64 (1 + (mo : Int) % 12)] 7, Blk.farSets HB5.out.2.1 (by omega) [.int .i64 (1 + (mo : Int) % 12)] 7, Blk.setMid [.int .i64 (off.tmod 604800), .int .i64 ((kd : Int) % 3), .int .i64 (sv.tmod 604800), .string ⟨#[]⟩, .string sF, .bool true, .int .i64 (1850 + (yr : Int) % 300)] [.int .i64 1] [.int .i64 (1 + (mo : Int) % 12)] [.int .i64 1, .int .i64 0, .int .i64 1, .int .i64 0, .int .i64 0] HB5.out.2.2.1 rfl, below_sets (by omega) [.int .i64 (1 + (mo : Int) % 12)] 7 _ HB5.out.2.2.2.1, hg⟩)
  go_upto_region 12 with fail
  try simp only [hw6]
  clear hw6 HB5 q7 f7 hlt t6 t8
  have t6 : w6.cell? ⟨w.heap.size, 6, none⟩ = some (.int .u8 (pt : Int)) := HB6.out.1.cell_ rfl
  have t10 : w6.cell? ⟨w.heap.size, 10, none⟩ = some (.int .u8 (dk : Int)) := HB6.out.1.cell_ rfl
  have t11 : w6.cell? ⟨w.heap.size, 11, none⟩ = some (.int .u8 (dw : Int)) := HB6.out.1.cell_ rfl
  have t12 : w6.cell? ⟨w.heap.size, 12, none⟩ = some (.int .u8 (dd : Int)) := HB6.out.1.cell_ rfl
  go_wp2_with fail
  refine (H2.out _).mono ?_
  rintro e w7 ⟨rfl, hb⟩
  have HB7 := Lib.hid (show Blk w7 w.heap.size 43 #[.int .i32 off, .int .i32 sv, .int .i32 at_, .int .u8 (kd : Int), .int .u8 (st : Int), .int .u8 (fm : Int), .int .u8 (pt : Int), .int .u16 (yr : Int), .int .u8 (mo : Int), .int .u8 (bs : Int), .int .u8 (dk : Int), .int .u8 (dw : Int), .int .u8 (dd : Int)] ∧ Blk w7 (w.heap.size + 1) 31 #[.int .i64 0, .int .i64 0, .int .i64 0, .string ⟨#[]⟩, .string ⟨#[]⟩, .bool false, .int .i64 0, .int .i64 0, .int .i64 0, .int .i64 0, .int .i64 0, .int .i64 0, .int .i64 0] ∧ Blk w7 g 31 #[.int .i64 (off.tmod 604800), .int .i64 ((kd : Int) % 3), .int .i64 (sv.tmod 604800), .string ⟨#[]⟩, .string sF, .bool true, .int .i64 (1850 + (yr : Int) % 300), .int .i64 (1 + (mo : Int) % 12), .int .i64 1, .int .i64 0, .int .i64 1, .int .i64 0, .int .i64 0] ∧ Below w.heap.size w w7 ∧ w.heap.size + 2 ≤ g from ⟨HB6.out.1.below hb HB6.out.1.lt, HB6.out.2.1.below hb HB6.out.2.1.lt, HB6.out.2.2.1.below hb HB6.out.2.2.1.lt, HB6.out.2.2.2.1.trans (hb.mono HB6.out.2.2.2.1.size), HB6.out.2.2.2.2⟩)
  clear hb HB6 t6 t10 t11 t12
  have q8 : w7.cell? ⟨g, 8, none⟩ = some (.int .i64 1) := HB7.out.2.2.1.cell_ rfl
  have f8 := HB7.out.2.2.1.frozen 8
  have q9 : w7.cell? ⟨g, 9, none⟩ = some (.int .i64 0) := HB7.out.2.2.1.cell_ rfl
  have f9 := HB7.out.2.2.1.frozen 9
  have q10 : w7.cell? ⟨g, 10, none⟩ = some (.int .i64 1) := HB7.out.2.2.1.cell_ rfl
  have f10 := HB7.out.2.2.1.frozen 10
  have hlt := HB7.out.2.2.1.lt
  obtain ⟨w8, hw8⟩ : ∃ W, (((w7.setCell ⟨g, 8, none⟩ (.int .i64 m1)).setCell ⟨g, 9, none⟩ (.int .i64 m2)).setCell ⟨g, 10, none⟩ (.int .i64 m3)) = W := ⟨_, rfl⟩
  have HB8 := Lib.hid (show Blk w8 w.heap.size 43 #[.int .i32 off, .int .i32 sv, .int .i32 at_, .int .u8 (kd : Int), .int .u8 (st : Int), .int .u8 (fm : Int), .int .u8 (pt : Int), .int .u16 (yr : Int), .int .u8 (mo : Int), .int .u8 (bs : Int), .int .u8 (dk : Int), .int .u8 (dw : Int), .int .u8 (dd : Int)] ∧ Blk w8 (w.heap.size + 1) 31 #[.int .i64 0, .int .i64 0, .int .i64 0, .string ⟨#[]⟩, .string ⟨#[]⟩, .bool false, .int .i64 0, .int .i64 0, .int .i64 0, .int .i64 0, .int .i64 0, .int .i64 0, .int .i64 0] ∧ Blk w8 g 31 #[.int .i64 (off.tmod 604800), .int .i64 ((kd : Int) % 3), .int .i64 (sv.tmod 604800), .string ⟨#[]⟩, .string sF, .bool true, .int .i64 (1850 + (yr : Int) % 300), .int .i64 (1 + (mo : Int) % 12), .int .i64 m1, .int .i64 m2, .int .i64 m3, .int .i64 0, .int .i64 0] ∧ Below w.heap.size w w8 ∧ w.heap.size + 2 ≤ g from by
    rw [← hw8]
    have hg := HB7.out.2.2.2.2
    exact ⟨Blk.farSets HB7.out.1 (by omega) [.int .i64 m1, .int .i64 m2, .int .i64 m3] 8, Blk.farSets HB7.out.2.1 (by omega) [.int .i64 m1, .int .i64 m2, .int .i64 m3] 8, Blk.setMid [.int .i64 (off.tmod 604800), .int .i64 ((kd : Int) % 3), .int .i64 (sv.tmod 604800), .string ⟨#[]⟩, .string sF, .bool true, .int .i64 (1850 + (yr : Int) % 300), .int .i64 (1 + (mo : Int) % 12)] [.int .i64 1, .int .i64 0, .int .i64 1] [.int .i64 m1, .int .i64 m2, .int .i64 m3] [.int .i64 0, .int .i64 0] HB7.out.2.2.1 rfl, below_sets (by omega) [.int .i64 m1, .int .i64 m2, .int .i64 m3] 8 _ HB7.out.2.2.2.1, hg⟩)
  go_upto_region 14 with fail
  try simp only [hw8]
  clear hw8 HB7 q8 f8 q9 f9 q10 f10 hlt
  have t6 : w8.cell? ⟨w.heap.size, 6, none⟩ = some (.int .u8 (pt : Int)) := HB8.out.1.cell_ rfl
  obtain ⟨C, hCC⟩ : ∃ C : Array Value, #[.int .i64 (off.tmod 604800), .int .i64 ((kd : Int) % 3), .int .i64 (sv.tmod 604800), .string ⟨#[]⟩, .string sF, .bool true, .int .i64 (1850 + (yr : Int) % 300), .int .i64 (1 + (mo : Int) % 12), .int .i64 m1, .int .i64 m2, .int .i64 m3, .int .i64 0, .int .i64 0] = C := ⟨_, rfl⟩
  have Hi := Lib.hid (show (Tryz.prog.info? 31).map (·.size) = some C.size ∧ C.all (·.oneCell') = true ∧ C.size = 13 from hCC ▸ ⟨infoEra, by simp [Value.oneCell'], rfl⟩)
  rw [hCC] at HB8
  have HCC := Lib.hid hCC
  clear hCC
  go_wp2_with (first
    | (refine wpList_load_row rfl 31 (.tmp 3) rfl g rfl 31 C (0, 0) _ HB8.out.2.2.1 Tryz.underlying31 rfl Hi.out.1 ?_)
    | (refine wpList_store_mid rfl 31 (.tmp 2) (.tmp 81) rfl (w.heap.size + 1) 0 C rfl rfl (HB8.out.2.1.there (by rw [Hi.out.2.2]; decide)) Hi.out.1 Hi.out.2.1 ?_))
  exact bodyPost_ret (results_cell_row rfl _ _ (w.heap.size + 1) 31 C (0, 0) _ rfl (HB8.out.2.1.setAll C Hi.out.2.2) Tryz.underlying31 rfl Hi.out.1) rfl ⟨by rw [← HCC.out], below_sets (by omega) _ _ _ HB8.out.2.2.2.1⟩

set_option maxRecDepth 100000 in
set_option maxHeartbeats 2000000 in
theorem emade_1_4 (off sv at_ : Int) (kd st fm pt yr mo bs dk dw dd : Nat) (m1 m2 m3 : Int) (sF sS : ByteArray) (w : World) (h1 : -2147483648 ≤ off ∧ off ≤ 2147483647) (h2 : -2147483648 ≤ sv ∧ sv ≤ 2147483647) (b1 : kd < 256) (b2 : st < 256) (b3 : fm < 256) (b4 : pt < 256) (b5 : yr < 65536) (b6 : mo < 256)
    (hk : kd % 3 = 1) (hp : pt % 5 = 4) (hF : efmtM fm = sF.data.toList) (hS : esetM st = sS.data.toList)
    (H2 : Hid (∀ W, Calls Tryz.prog 35 #[.agg #[.int .u8 (dk : Int), .int .u8 (dw : Int), .int .u8 (dd : Int)]] W fun e w' => e = .returned (.agg #[.int .i64 m1, .int .i64 m2, .int .i64 m3]) ∧ Below W.heap.size W w'))
    (H6 : Hid (∀ W, Calls Tryz.prog 36 #[.int .i32 at_, .int .u8 (bs : Int)] W fun e w' => e = .returned (.agg #[.int .i64 (at_.tmod 604800), .int .i64 ((bs : Int) % 3)]) ∧ Below W.heap.size W w')) :
    Calls Tryz.prog 15 #[.agg #[.int .i32 off, .int .i32 sv, .int .i32 at_, .int .u8 (kd : Int), .int .u8 (st : Int), .int .u8 (fm : Int), .int .u8 (pt : Int), .int .u16 (yr : Int), .int .u8 (mo : Int), .int .u8 (bs : Int), .int .u8 (dk : Int), .int .u8 (dw : Int), .int .u8 (dd : Int)]] w fun e w' => e = .returned (.agg #[.int .i64 (off.tmod 604800), .int .i64 ((kd : Int) % 3), .int .i64 (sv.tmod 604800), .string ⟨#[]⟩, .string sF, .bool true, .int .i64 (1850 + (yr : Int) % 300), .int .i64 (1 + (mo : Int) % 12), .int .i64 m1, .int .i64 m2, .int .i64 m3, .int .i64 (at_.tmod 604800), .int .i64 ((bs : Int) % 3)]) ∧ Below w.heap.size w w' := by
  obtain ⟨h1a, h1b⟩ := h1
  obtain ⟨h2a, h2b⟩ := h2
  obtain ⟨i, hi⟩ : ∃ i, fm % 8 = i := ⟨_, rfl⟩
  obtain ⟨j, hj⟩ : ∃ j, st % 4 = j := ⟨_, rfl⟩
  have hi8 : i < 8 := by omega
  have hj4 : j < 4 := by omega
  have Hc1 := Lib.hid (show ∀ W g, Blk W g 9 #[.string ⟨#[71, 77, 84]⟩, .string ⟨#[65, 47, 66]⟩, .string ⟨#[37, 115]⟩, .string ⟨#[37, 122]⟩, .string ⟨#[43, 48, 53]⟩, .string ⟨#[43, 48, 53, 47, 43, 48, 54]⟩, .string ⟨#[67, 37, 115, 84]⟩, .string ⟨#[45, 48, 48]⟩] → W.cell? ⟨g, i, none⟩ = some (.string sF) from fun W g h => h.cell_ (by
    rw [show sF = ⟨(efmtM fm).toArray⟩ by rw [hF, ba_list], efmtM, hi]
    rcases (by omega : i = 0 ∨ i = 1 ∨ i = 2 ∨ i = 3 ∨ i = 4 ∨ i = 5 ∨ i = 6 ∨ i = 7) with h | h | h | h | h | h | h | h <;> subst h <;> rfl))
  have Hc2 := Lib.hid (show ∀ W g, Blk W g 9 #[.string ⟨#[69, 105, 114, 101]⟩, .string ⟨#[82]⟩, .string ⟨#[67, 45, 69, 117, 114]⟩, .string ⟨#[97, 95, 49]⟩] → W.cell? ⟨g, j, none⟩ = some (.string sS) from fun W g h => h.cell_ (by
    rw [show sS = ⟨(esetM st).toArray⟩ by rw [hS, ba_list], esetM, hj]
    rcases (by omega : j = 0 ∨ j = 1 ∨ j = 2 ∨ j = 3) with h | h | h | h <;> subst h <;> rfl))
  have htm : ∀ (a : Nat) (b : Int), (a : Int).tmod b = (a : Int) % b := fun a b => Int.tmod_eq_emod_of_nonneg (by omega)
  have hw1 : IntKind.i64.wrap off = off := IntWalk.i64_in _ (by omega)
  have hw2 : IntKind.i64.wrap sv = sv := IntWalk.i64_in _ (by omega)
  have hw3 : IntKind.i64.wrap ((kd : Int) % 3) = (kd : Int) % 3 := IntWalk.i64_in _ (by omega)
  have hiA : (0 : Int) ≤ (i : Int) := by omega
  have hiB : (i : Int) < 8 := by omega
  have hjA : (0 : Int) ≤ (j : Int) := by omega
  have hjB : (j : Int) < 4 := by omega
  have hiI : (fm : Int) % 8 = (i : Int) := by omega
  have hjI : (st : Int) % 4 = (j : Int) := by omega
  have e1 : ((kd : Int) % 3 == 1) = true := by rw [beq_iff_eq]; omega
  have e2 : ((kd : Int) % 3 == 2) = false := by rw [beq_eq_false_iff_ne]; omega
  have p0 : ((pt : Int) % 5 == 0) = false := by rw [beq_eq_false_iff_ne]; omega
  have g1 : decide (1 < (pt : Int) % 5) = true := decide_eq_true (by omega)
  have g2 : decide (2 < (pt : Int) % 5) = true := decide_eq_true (by omega)
  have g3 : decide (3 < (pt : Int) % 5) = true := decide_eq_true (by omega)
  clear hk hp hF hS hi hj hi8 hj4
  go_enter Tryz.func15, Tryz.ntmps15
  go_upto_region 1 with fail
  have HG : EHeld w off sv at_ kd st fm pt yr mo bs dk dw dd ((w.alloc (.cells #[.int .i32 off, .int .i32 sv, .int .i32 at_, .int .u8 (kd : Int), .int .u8 (st : Int), .int .u8 (fm : Int), .int .u8 (pt : Int), .int .u16 (yr : Int), .int .u8 (mo : Int), .int .u8 (bs : Int), .int .u8 (dk : Int), .int .u8 (dw : Int), .int .u8 (dd : Int)] 43)).alloc (.cells #[.int .i64 0, .int .i64 0, .int .i64 0, .string ⟨#[]⟩, .string ⟨#[]⟩, .bool false, .int .i64 0, .int .i64 0, .int .i64 0, .int .i64 0, .int .i64 0, .int .i64 0, .int .i64 0] 31)) := ⟨(Blk.new' _ _ _ rfl).alloc _, Blk.new' _ _ _ (by simp), by go_grown⟩
  refine wp_region_rels 16 [[], [], [], [], [], [], [], [], [], [], [], [], [8], [12], [], []] [Form.val, Form.val, Form.val, Form.val, Form.val, Form.val, Form.val, Form.val, Form.rel (TabIs 8 #[.string ⟨#[71, 77, 84]⟩, .string ⟨#[65, 47, 66]⟩, .string ⟨#[37, 115]⟩, .string ⟨#[37, 122]⟩, .string ⟨#[43, 48, 53]⟩, .string ⟨#[43, 48, 53, 47, 43, 48, 54]⟩, .string ⟨#[67, 37, 115, 84]⟩, .string ⟨#[45, 48, 48]⟩]), Form.val, Form.val, Form.val, Form.rel (PtrIs i #[.string ⟨#[71, 77, 84]⟩, .string ⟨#[65, 47, 66]⟩, .string ⟨#[37, 115]⟩, .string ⟨#[37, 122]⟩, .string ⟨#[43, 48, 53]⟩, .string ⟨#[43, 48, 53, 47, 43, 48, 54]⟩, .string ⟨#[67, 37, 115, 84]⟩, .string ⟨#[45, 48, 48]⟩]), Form.val, Form.val, Form.rel (NewEra (w.heap.size + 2))] (EHeld w off sv at_ kd st fm pt yr mo bs dk dw dd) (by kernel_rfl) (by kernel_rfl) rfl rfl (⟨HG.1, HG.2.1, HG.2.2.drew⟩) (fun W W' h hb => ⟨h.1.below hb h.1.lt, h.2.1.below hb h.2.1.lt, h.2.2.trans (hb.mono h.2.2.size)⟩) ⟨TabIs.lasts _ _, PtrIs.lasts _ _, NewEra.lasts _, trivial⟩ ?_
  repeat (first | apply exSpec_rel | apply exSpec_new | apply exSpec_val)
  apply relWalk_ex rfl ?o0 (fun K hK => ?n0)
  case o0 =>
    intro W hC hF
    obtain ⟨q0, q1, q2, q3, q4, q5, q6, q7, q8, q9, q10, q11, q12⟩ := hC.cells
    go_simp
    all_goals exact ⟨Below.refl _ _, rfl⟩
  case' n0 =>
    go_simp
    refine hK _ ?_
    clear hK K
  apply relWalk_ex rfl ?o1 (fun K hK => ?n1)
  case o1 =>
    intro W hC hF
    obtain ⟨q0, q1, q2, q3, q4, q5, q6, q7, q8, q9, q10, q11, q12⟩ := hC.cells
    go_simp
    all_goals exact ⟨Below.refl _ _, rfl⟩
  case' n1 =>
    go_simp
    refine hK _ ?_
    clear hK K
  apply relWalk_ex rfl ?o2 (fun K hK => ?n2)
  case o2 =>
    intro W hC hF
    obtain ⟨q0, q1, q2, q3, q4, q5, q6, q7, q8, q9, q10, q11, q12⟩ := hC.cells
    go_simp
    all_goals exact ⟨Below.refl _ _, rfl⟩
  case' n2 =>
    go_simp
    refine hK _ ?_
    clear hK K
  apply relWalk_ex rfl ?o3 (fun K hK => ?n3)
  case o3 =>
    intro W hC hF
    obtain ⟨q0, q1, q2, q3, q4, q5, q6, q7, q8, q9, q10, q11, q12⟩ := hC.cells
    go_simp
    all_goals exact ⟨Below.refl _ _, rfl⟩
  case' n3 =>
    go_simp
    refine hK _ ?_
    clear hK K
  apply relWalk_ex rfl ?o4 (fun K hK => ?n4)
  case o4 =>
    intro W hC hF
    obtain ⟨q0, q1, q2, q3, q4, q5, q6, q7, q8, q9, q10, q11, q12⟩ := hC.cells
    go_simp
    all_goals exact ⟨Below.refl _ _, rfl⟩
  case' n4 =>
    go_simp
    refine hK _ ?_
    clear hK K
  apply relWalk_ex rfl ?o5 (fun K hK => ?n5)
  case o5 =>
    intro W hC hF
    obtain ⟨q0, q1, q2, q3, q4, q5, q6, q7, q8, q9, q10, q11, q12⟩ := hC.cells
    go_simp
    all_goals exact ⟨Below.refl _ _, rfl⟩
  case' n5 =>
    go_simp
    refine hK _ ?_
    clear hK K
  apply relWalk_ex rfl ?o6 (fun K hK => ?n6)
  case o6 =>
    intro W hC hF
    obtain ⟨q0, q1, q2, q3, q4, q5, q6, q7, q8, q9, q10, q11, q12⟩ := hC.cells
    go_simp
    all_goals exact ⟨Below.refl _ _, rfl⟩
  case' n6 =>
    go_simp
    refine hK _ ?_
    clear hK K
  apply relWalk_ex rfl ?o7 (fun K hK => ?n7)
  case o7 =>
    intro W hC hF
    obtain ⟨q0, q1, q2, q3, q4, q5, q6, q7, q8, q9, q10, q11, q12⟩ := hC.cells
    go_simp
    all_goals exact ⟨Below.refl _ _, rfl⟩
  case' n7 =>
    go_simp
    refine hK _ ?_
    clear hK K
  apply relWalk_rel rfl ?o8 (fun u8 K hK => ?n8)
  case o8 =>
    intro W hC hF
    obtain ⟨q0, q1, q2, q3, q4, q5, q6, q7, q8, q9, q10, q11, q12⟩ := hC.cells
    go_simp
    all_goals exact ⟨by go_grown, _, rfl, Blk.new _ _ _⟩
  case' n8 =>
    go_simp
    refine hK _ ?_
    clear hK K
  apply relWalk_ex rfl ?o9 (fun K hK => ?n9)
  case o9 =>
    intro W hC hF
    obtain ⟨q0, q1, q2, q3, q4, q5, q6, q7, q8, q9, q10, q11, q12⟩ := hC.cells
    go_simp
    all_goals exact ⟨Below.refl _ _, rfl⟩
  case' n9 =>
    go_simp
    refine hK _ ?_
    clear hK K
  apply relWalk_ex rfl ?o10 (fun K hK => ?n10)
  case o10 =>
    intro W hC hF
    obtain ⟨q0, q1, q2, q3, q4, q5, q6, q7, q8, q9, q10, q11, q12⟩ := hC.cells
    go_simp
    all_goals exact ⟨Below.refl _ _, rfl⟩
  case' n10 =>
    go_simp
    refine hK _ ?_
    clear hK K
  apply relWalk_ex rfl ?o11 (fun K hK => ?n11)
  case o11 =>
    intro W hC hF
    obtain ⟨q0, q1, q2, q3, q4, q5, q6, q7, q8, q9, q10, q11, q12⟩ := hC.cells
    go_simp
    all_goals exact ⟨Below.refl _ _, rfl⟩
  case' n11 =>
    go_simp
    refine hK _ ?_
    clear hK K
  apply relWalk_rel rfl ?o12 (fun u12 K hK => ?n12)
  case o12 =>
    intro W hC hF
    obtain ⟨⟨g, rfl, hB⟩, -⟩ := hF
    obtain ⟨q0, q1, q2, q3, q4, q5, q6, q7, q8, q9, q10, q11, q12⟩ := hC.cells
    go_simp
    all_goals exact ⟨by go_grown, g, rfl, hB⟩
  case' n12 =>
    go_simp
    refine hK _ ?_
    clear hK K
  apply relWalk_ex rfl ?o13 (fun K hK => ?n13)
  case o13 =>
    intro W hC hF
    obtain ⟨⟨g, rfl, hB⟩, -⟩ := hF
    have hx : W.cell? ⟨g, i, none⟩ = some (.string sF) := Hc1.out W g hB
    obtain ⟨q0, q1, q2, q3, q4, q5, q6, q7, q8, q9, q10, q11, q12⟩ := hC.cells
    go_simp
    all_goals exact ⟨Below.refl _ _, rfl⟩
  case' n13 =>
    go_simp
    refine hK _ ?_
    clear hK K
  apply relWalk_ex rfl ?o14 (fun K hK => ?n14)
  case o14 =>
    intro W hC hF
    obtain ⟨q0, q1, q2, q3, q4, q5, q6, q7, q8, q9, q10, q11, q12⟩ := hC.cells
    go_simp
    all_goals exact ⟨Below.refl _ _, rfl⟩
  case' n14 =>
    go_simp
    refine hK _ ?_
    clear hK K
  apply relWalk_rel rfl ?o15 (fun u15 K hK => ?n15)
  case o15 =>
    intro W hC hF
    obtain ⟨q0, q1, q2, q3, q4, q5, q6, q7, q8, q9, q10, q11, q12⟩ := hC.cells
    go_simp
    all_goals exact ⟨by go_grown, _, rfl, hC.2.1.lt, Blk.new _ _ _⟩
  case' n15 =>
    go_simp
    refine hK _ ?_
    clear hK K
  apply relWalk_end
  intro W hC hF hU
  obtain ⟨⟨g, rfl, hg, hB⟩, -⟩ := hF
  obtain ⟨hD, hZ, hb⟩ := hC
  refine wpList_store_mid rfl 31 (.tmp 3) (.tmp 18) rfl g 0 #[.int .i64 (off.tmod 604800), .int .i64 ((kd : Int) % 3), .int .i64 0, .string ⟨#[]⟩, .string sF, .bool false, .int .i64 0, .int .i64 0, .int .i64 0, .int .i64 0, .int .i64 0, .int .i64 0, .int .i64 0] rfl rfl (hB.there (Nat.le_refl _)) infoEra (by simp [Value.oneCell']) ?_
  have HB2 := Lib.hid (show Blk (W.setCells g 0 #[.int .i64 (off.tmod 604800), .int .i64 ((kd : Int) % 3), .int .i64 0, .string ⟨#[]⟩, .string sF, .bool false, .int .i64 0, .int .i64 0, .int .i64 0, .int .i64 0, .int .i64 0, .int .i64 0, .int .i64 0].toList) w.heap.size 43 #[.int .i32 off, .int .i32 sv, .int .i32 at_, .int .u8 (kd : Int), .int .u8 (st : Int), .int .u8 (fm : Int), .int .u8 (pt : Int), .int .u16 (yr : Int), .int .u8 (mo : Int), .int .u8 (bs : Int), .int .u8 (dk : Int), .int .u8 (dw : Int), .int .u8 (dd : Int)] ∧ Blk (W.setCells g 0 #[.int .i64 (off.tmod 604800), .int .i64 ((kd : Int) % 3), .int .i64 0, .string ⟨#[]⟩, .string sF, .bool false, .int .i64 0, .int .i64 0, .int .i64 0, .int .i64 0, .int .i64 0, .int .i64 0, .int .i64 0].toList) (w.heap.size + 1) 31 #[.int .i64 0, .int .i64 0, .int .i64 0, .string ⟨#[]⟩, .string ⟨#[]⟩, .bool false, .int .i64 0, .int .i64 0, .int .i64 0, .int .i64 0, .int .i64 0, .int .i64 0, .int .i64 0] ∧ Blk (W.setCells g 0 #[.int .i64 (off.tmod 604800), .int .i64 ((kd : Int) % 3), .int .i64 0, .string ⟨#[]⟩, .string sF, .bool false, .int .i64 0, .int .i64 0, .int .i64 0, .int .i64 0, .int .i64 0, .int .i64 0, .int .i64 0].toList) g 31 #[.int .i64 (off.tmod 604800), .int .i64 ((kd : Int) % 3), .int .i64 0, .string ⟨#[]⟩, .string sF, .bool false, .int .i64 0, .int .i64 0, .int .i64 0, .int .i64 0, .int .i64 0, .int .i64 0, .int .i64 0] ∧ Below w.heap.size w (W.setCells g 0 #[.int .i64 (off.tmod 604800), .int .i64 ((kd : Int) % 3), .int .i64 0, .string ⟨#[]⟩, .string sF, .bool false, .int .i64 0, .int .i64 0, .int .i64 0, .int .i64 0, .int .i64 0, .int .i64 0, .int .i64 0].toList) ∧ w.heap.size + 2 ≤ g from ⟨Blk.farSets hD (by omega) _ _, Blk.farSets hZ (by omega) _ _, hB.setAll #[.int .i64 (off.tmod 604800), .int .i64 ((kd : Int) % 3), .int .i64 0, .string ⟨#[]⟩, .string sF, .bool false, .int .i64 0, .int .i64 0, .int .i64 0, .int .i64 0, .int .i64 0, .int .i64 0, .int .i64 0] rfl, below_sets (by omega) _ _ _ hb, hg⟩)
  clear hU hD hZ hb hB hg HG htm hw1 hw3 Hc1 hiA hiB hiI
  generalize W.setCells g 0 #[.int .i64 (off.tmod 604800), .int .i64 ((kd : Int) % 3), .int .i64 0, .string ⟨#[]⟩, .string sF, .bool false, .int .i64 0, .int .i64 0, .int .i64 0, .int .i64 0, .int .i64 0, .int .i64 0, .int .i64 0].toList = w2 at *
  have k1 : w2.cell? ⟨g, 1, none⟩ = some (.int .i64 ((kd : Int) % 3)) := HB2.out.2.2.1.cell_ rfl
  have t1 : w2.cell? ⟨w.heap.size, 1, none⟩ = some (.int .i32 sv) := HB2.out.1.cell_ rfl
  have t6 : w2.cell? ⟨w.heap.size, 6, none⟩ = some (.int .u8 (pt : Int)) := HB2.out.1.cell_ rfl
  have q2 : w2.cell? ⟨g, 2, none⟩ = some (.int .i64 0) := HB2.out.2.2.1.cell_ rfl
  have f2 := HB2.out.2.2.1.frozen 2
  have hlt := HB2.out.2.2.1.lt
  obtain ⟨w3, hw3⟩ : ∃ W, (w2.setCell ⟨g, 2, none⟩ (.int .i64 (sv.tmod 604800))) = W := ⟨_, rfl⟩
  have HB3 := Lib.hid (show Blk w3 w.heap.size 43 #[.int .i32 off, .int .i32 sv, .int .i32 at_, .int .u8 (kd : Int), .int .u8 (st : Int), .int .u8 (fm : Int), .int .u8 (pt : Int), .int .u16 (yr : Int), .int .u8 (mo : Int), .int .u8 (bs : Int), .int .u8 (dk : Int), .int .u8 (dw : Int), .int .u8 (dd : Int)] ∧ Blk w3 (w.heap.size + 1) 31 #[.int .i64 0, .int .i64 0, .int .i64 0, .string ⟨#[]⟩, .string ⟨#[]⟩, .bool false, .int .i64 0, .int .i64 0, .int .i64 0, .int .i64 0, .int .i64 0, .int .i64 0, .int .i64 0] ∧ Blk w3 g 31 #[.int .i64 (off.tmod 604800), .int .i64 ((kd : Int) % 3), .int .i64 (sv.tmod 604800), .string ⟨#[]⟩, .string sF, .bool false, .int .i64 0, .int .i64 0, .int .i64 0, .int .i64 0, .int .i64 0, .int .i64 0, .int .i64 0] ∧ Below w.heap.size w w3 ∧ w.heap.size + 2 ≤ g from by
    rw [← hw3]
    have hg := HB2.out.2.2.2.2
    exact ⟨Blk.farSets HB2.out.1 (by omega) [.int .i64 (sv.tmod 604800)] 2, Blk.farSets HB2.out.2.1 (by omega) [.int .i64 (sv.tmod 604800)] 2, Blk.setMid [.int .i64 (off.tmod 604800), .int .i64 ((kd : Int) % 3)] [.int .i64 0] [.int .i64 (sv.tmod 604800)] [.string ⟨#[]⟩, .string sF, .bool false, .int .i64 0, .int .i64 0, .int .i64 0, .int .i64 0, .int .i64 0, .int .i64 0, .int .i64 0] HB2.out.2.2.1 rfl, below_sets (by omega) [.int .i64 (sv.tmod 604800)] 2 _ HB2.out.2.2.2.1, hg⟩)
  go_upto_region 7 with fail
  try simp only [hw3]
  clear hw3 HB2 q2 f2 hlt t1 t6 k1
  have t6 : w3.cell? ⟨w.heap.size, 6, none⟩ = some (.int .u8 (pt : Int)) := HB3.out.1.cell_ rfl
  have t7 : w3.cell? ⟨w.heap.size, 7, none⟩ = some (.int .u16 (yr : Int)) := HB3.out.1.cell_ rfl
  go_wp2_with fail
  refine (until_any _ _ _ _ _ _).mono ?_
  rintro e w4 ⟨rfl, hb⟩
  have HB4 := Lib.hid (show Blk w4 w.heap.size 43 #[.int .i32 off, .int .i32 sv, .int .i32 at_, .int .u8 (kd : Int), .int .u8 (st : Int), .int .u8 (fm : Int), .int .u8 (pt : Int), .int .u16 (yr : Int), .int .u8 (mo : Int), .int .u8 (bs : Int), .int .u8 (dk : Int), .int .u8 (dw : Int), .int .u8 (dd : Int)] ∧ Blk w4 (w.heap.size + 1) 31 #[.int .i64 0, .int .i64 0, .int .i64 0, .string ⟨#[]⟩, .string ⟨#[]⟩, .bool false, .int .i64 0, .int .i64 0, .int .i64 0, .int .i64 0, .int .i64 0, .int .i64 0, .int .i64 0] ∧ Blk w4 g 31 #[.int .i64 (off.tmod 604800), .int .i64 ((kd : Int) % 3), .int .i64 (sv.tmod 604800), .string ⟨#[]⟩, .string sF, .bool false, .int .i64 0, .int .i64 0, .int .i64 0, .int .i64 0, .int .i64 0, .int .i64 0, .int .i64 0] ∧ Below w.heap.size w w4 ∧ w.heap.size + 2 ≤ g from ⟨HB3.out.1.below hb HB3.out.1.lt, HB3.out.2.1.below hb HB3.out.2.1.lt, HB3.out.2.2.1.below hb HB3.out.2.2.1.lt, HB3.out.2.2.2.1.trans (hb.mono HB3.out.2.2.2.1.size), HB3.out.2.2.2.2⟩)
  clear hb HB3 t6 t7
  have q5 : w4.cell? ⟨g, 5, none⟩ = some (.bool false) := HB4.out.2.2.1.cell_ rfl
  have f5 := HB4.out.2.2.1.frozen 5
  have q6 : w4.cell? ⟨g, 6, none⟩ = some (.int .i64 0) := HB4.out.2.2.1.cell_ rfl
  have f6 := HB4.out.2.2.1.frozen 6
  have q7 : w4.cell? ⟨g, 7, none⟩ = some (.int .i64 0) := HB4.out.2.2.1.cell_ rfl
  have f7 := HB4.out.2.2.1.frozen 7
  have q8 : w4.cell? ⟨g, 8, none⟩ = some (.int .i64 0) := HB4.out.2.2.1.cell_ rfl
  have f8 := HB4.out.2.2.1.frozen 8
  have q9 : w4.cell? ⟨g, 9, none⟩ = some (.int .i64 0) := HB4.out.2.2.1.cell_ rfl
  have f9 := HB4.out.2.2.1.frozen 9
  have q10 : w4.cell? ⟨g, 10, none⟩ = some (.int .i64 0) := HB4.out.2.2.1.cell_ rfl
  have f10 := HB4.out.2.2.1.frozen 10
  have q11 : w4.cell? ⟨g, 11, none⟩ = some (.int .i64 0) := HB4.out.2.2.1.cell_ rfl
  have f11 := HB4.out.2.2.1.frozen 11
  have q12 : w4.cell? ⟨g, 12, none⟩ = some (.int .i64 0) := HB4.out.2.2.1.cell_ rfl
  have f12 := HB4.out.2.2.1.frozen 12
  have hlt := HB4.out.2.2.1.lt
  obtain ⟨w5, hw5⟩ : ∃ W, ((((((((w4.setCell ⟨g, 5, none⟩ (.bool true)).setCell ⟨g, 6, none⟩ (.int .i64 (1850 + (yr : Int) % 300))).setCell ⟨g, 7, none⟩ (.int .i64 1)).setCell ⟨g, 8, none⟩ (.int .i64 1)).setCell ⟨g, 9, none⟩ (.int .i64 0)).setCell ⟨g, 10, none⟩ (.int .i64 1)).setCell ⟨g, 11, none⟩ (.int .i64 0)).setCell ⟨g, 12, none⟩ (.int .i64 0)) = W := ⟨_, rfl⟩
  have HB5 := Lib.hid (show Blk w5 w.heap.size 43 #[.int .i32 off, .int .i32 sv, .int .i32 at_, .int .u8 (kd : Int), .int .u8 (st : Int), .int .u8 (fm : Int), .int .u8 (pt : Int), .int .u16 (yr : Int), .int .u8 (mo : Int), .int .u8 (bs : Int), .int .u8 (dk : Int), .int .u8 (dw : Int), .int .u8 (dd : Int)] ∧ Blk w5 (w.heap.size + 1) 31 #[.int .i64 0, .int .i64 0, .int .i64 0, .string ⟨#[]⟩, .string ⟨#[]⟩, .bool false, .int .i64 0, .int .i64 0, .int .i64 0, .int .i64 0, .int .i64 0, .int .i64 0, .int .i64 0] ∧ Blk w5 g 31 #[.int .i64 (off.tmod 604800), .int .i64 ((kd : Int) % 3), .int .i64 (sv.tmod 604800), .string ⟨#[]⟩, .string sF, .bool true, .int .i64 (1850 + (yr : Int) % 300), .int .i64 1, .int .i64 1, .int .i64 0, .int .i64 1, .int .i64 0, .int .i64 0] ∧ Below w.heap.size w w5 ∧ w.heap.size + 2 ≤ g from by
    rw [← hw5]
    have hg := HB4.out.2.2.2.2
    exact ⟨Blk.farSets HB4.out.1 (by omega) [.bool true, .int .i64 (1850 + (yr : Int) % 300), .int .i64 1, .int .i64 1, .int .i64 0, .int .i64 1, .int .i64 0, .int .i64 0] 5, Blk.farSets HB4.out.2.1 (by omega) [.bool true, .int .i64 (1850 + (yr : Int) % 300), .int .i64 1, .int .i64 1, .int .i64 0, .int .i64 1, .int .i64 0, .int .i64 0] 5, Blk.setMid [.int .i64 (off.tmod 604800), .int .i64 ((kd : Int) % 3), .int .i64 (sv.tmod 604800), .string ⟨#[]⟩, .string sF] [.bool false, .int .i64 0, .int .i64 0, .int .i64 0, .int .i64 0, .int .i64 0, .int .i64 0, .int .i64 0] [.bool true, .int .i64 (1850 + (yr : Int) % 300), .int .i64 1, .int .i64 1, .int .i64 0, .int .i64 1, .int .i64 0, .int .i64 0] [] HB4.out.2.2.1 rfl, below_sets (by omega) [.bool true, .int .i64 (1850 + (yr : Int) % 300), .int .i64 1, .int .i64 1, .int .i64 0, .int .i64 1, .int .i64 0, .int .i64 0] 5 _ HB4.out.2.2.2.1, hg⟩)
  go_upto_region 10 with fail
  try simp only [hw5]
  clear hw5 HB4 q5 f5 q6 f6 q7 f7 q8 f8 q9 f9 q10 f10 q11 f11 q12 f12 hlt
  have t6 : w5.cell? ⟨w.heap.size, 6, none⟩ = some (.int .u8 (pt : Int)) := HB5.out.1.cell_ rfl
  have t8 : w5.cell? ⟨w.heap.size, 8, none⟩ = some (.int .u8 (mo : Int)) := HB5.out.1.cell_ rfl
  have q7 : w5.cell? ⟨g, 7, none⟩ = some (.int .i64 1) := HB5.out.2.2.1.cell_ rfl
  have f7 := HB5.out.2.2.1.frozen 7
  have hlt := HB5.out.2.2.1.lt
  obtain ⟨w6, hw6⟩ : ∃ W, (w5.setCell ⟨g, 7, none⟩ (.int .i64 (1 + (mo : Int) % 12))) = W := ⟨_, rfl⟩
  have HB6 := Lib.hid (show Blk w6 w.heap.size 43 #[.int .i32 off, .int .i32 sv, .int .i32 at_, .int .u8 (kd : Int), .int .u8 (st : Int), .int .u8 (fm : Int), .int .u8 (pt : Int), .int .u16 (yr : Int), .int .u8 (mo : Int), .int .u8 (bs : Int), .int .u8 (dk : Int), .int .u8 (dw : Int), .int .u8 (dd : Int)] ∧ Blk w6 (w.heap.size + 1) 31 #[.int .i64 0, .int .i64 0, .int .i64 0, .string ⟨#[]⟩, .string ⟨#[]⟩, .bool false, .int .i64 0, .int .i64 0, .int .i64 0, .int .i64 0, .int .i64 0, .int .i64 0, .int .i64 0] ∧ Blk w6 g 31 #[.int .i64 (off.tmod 604800), .int .i64 ((kd : Int) % 3), .int .i64 (sv.tmod 604800), .string ⟨#[]⟩, .string sF, .bool true, .int .i64 (1850 + (yr : Int) % 300), .int .i64 (1 + (mo : Int) % 12), .int .i64 1, .int .i64 0, .int .i64 1, .int .i64 0, .int .i64 0] ∧ Below w.heap.size w w6 ∧ w.heap.size + 2 ≤ g from by
    rw [← hw6]
    have hg := HB5.out.2.2.2.2
    exact ⟨Blk.farSets HB5.out.1 (by omega) [.int .i64 (1 + (mo : Int) % 12)] 7, Blk.farSets HB5.out.2.1 (by omega) [.int .i64 (1 + (mo : Int) % 12)] 7, Blk.setMid [.int .i64 (off.tmod 604800), .int .i64 ((kd : Int) % 3), .int .i64 (sv.tmod 604800), .string ⟨#[]⟩, .string sF, .bool true, .int .i64 (1850 + (yr : Int) % 300)] [.int .i64 1] [.int .i64 (1 + (mo : Int) % 12)] [.int .i64 1, .int .i64 0, .int .i64 1, .int .i64 0, .int .i64 0] HB5.out.2.2.1 rfl, below_sets (by omega) [.int .i64 (1 + (mo : Int) % 12)] 7 _ HB5.out.2.2.2.1, hg⟩)
  go_upto_region 12 with fail
  try simp only [hw6]
  clear hw6 HB5 q7 f7 hlt t6 t8
  have t6 : w6.cell? ⟨w.heap.size, 6, none⟩ = some (.int .u8 (pt : Int)) := HB6.out.1.cell_ rfl
  have t10 : w6.cell? ⟨w.heap.size, 10, none⟩ = some (.int .u8 (dk : Int)) := HB6.out.1.cell_ rfl
  have t11 : w6.cell? ⟨w.heap.size, 11, none⟩ = some (.int .u8 (dw : Int)) := HB6.out.1.cell_ rfl
  have t12 : w6.cell? ⟨w.heap.size, 12, none⟩ = some (.int .u8 (dd : Int)) := HB6.out.1.cell_ rfl
  go_wp2_with fail
  refine (H2.out _).mono ?_
  rintro e w7 ⟨rfl, hb⟩
  have HB7 := Lib.hid (show Blk w7 w.heap.size 43 #[.int .i32 off, .int .i32 sv, .int .i32 at_, .int .u8 (kd : Int), .int .u8 (st : Int), .int .u8 (fm : Int), .int .u8 (pt : Int), .int .u16 (yr : Int), .int .u8 (mo : Int), .int .u8 (bs : Int), .int .u8 (dk : Int), .int .u8 (dw : Int), .int .u8 (dd : Int)] ∧ Blk w7 (w.heap.size + 1) 31 #[.int .i64 0, .int .i64 0, .int .i64 0, .string ⟨#[]⟩, .string ⟨#[]⟩, .bool false, .int .i64 0, .int .i64 0, .int .i64 0, .int .i64 0, .int .i64 0, .int .i64 0, .int .i64 0] ∧ Blk w7 g 31 #[.int .i64 (off.tmod 604800), .int .i64 ((kd : Int) % 3), .int .i64 (sv.tmod 604800), .string ⟨#[]⟩, .string sF, .bool true, .int .i64 (1850 + (yr : Int) % 300), .int .i64 (1 + (mo : Int) % 12), .int .i64 1, .int .i64 0, .int .i64 1, .int .i64 0, .int .i64 0] ∧ Below w.heap.size w w7 ∧ w.heap.size + 2 ≤ g from ⟨HB6.out.1.below hb HB6.out.1.lt, HB6.out.2.1.below hb HB6.out.2.1.lt, HB6.out.2.2.1.below hb HB6.out.2.2.1.lt, HB6.out.2.2.2.1.trans (hb.mono HB6.out.2.2.2.1.size), HB6.out.2.2.2.2⟩)
  clear hb HB6 t6 t10 t11 t12
  have q8 : w7.cell? ⟨g, 8, none⟩ = some (.int .i64 1) := HB7.out.2.2.1.cell_ rfl
  have f8 := HB7.out.2.2.1.frozen 8
  have q9 : w7.cell? ⟨g, 9, none⟩ = some (.int .i64 0) := HB7.out.2.2.1.cell_ rfl
  have f9 := HB7.out.2.2.1.frozen 9
  have q10 : w7.cell? ⟨g, 10, none⟩ = some (.int .i64 1) := HB7.out.2.2.1.cell_ rfl
  have f10 := HB7.out.2.2.1.frozen 10
  have hlt := HB7.out.2.2.1.lt
  obtain ⟨w8, hw8⟩ : ∃ W, (((w7.setCell ⟨g, 8, none⟩ (.int .i64 m1)).setCell ⟨g, 9, none⟩ (.int .i64 m2)).setCell ⟨g, 10, none⟩ (.int .i64 m3)) = W := ⟨_, rfl⟩
  have HB8 := Lib.hid (show Blk w8 w.heap.size 43 #[.int .i32 off, .int .i32 sv, .int .i32 at_, .int .u8 (kd : Int), .int .u8 (st : Int), .int .u8 (fm : Int), .int .u8 (pt : Int), .int .u16 (yr : Int), .int .u8 (mo : Int), .int .u8 (bs : Int), .int .u8 (dk : Int), .int .u8 (dw : Int), .int .u8 (dd : Int)] ∧ Blk w8 (w.heap.size + 1) 31 #[.int .i64 0, .int .i64 0, .int .i64 0, .string ⟨#[]⟩, .string ⟨#[]⟩, .bool false, .int .i64 0, .int .i64 0, .int .i64 0, .int .i64 0, .int .i64 0, .int .i64 0, .int .i64 0] ∧ Blk w8 g 31 #[.int .i64 (off.tmod 604800), .int .i64 ((kd : Int) % 3), .int .i64 (sv.tmod 604800), .string ⟨#[]⟩, .string sF, .bool true, .int .i64 (1850 + (yr : Int) % 300), .int .i64 (1 + (mo : Int) % 12), .int .i64 m1, .int .i64 m2, .int .i64 m3, .int .i64 0, .int .i64 0] ∧ Below w.heap.size w w8 ∧ w.heap.size + 2 ≤ g from by
    rw [← hw8]
    have hg := HB7.out.2.2.2.2
    exact ⟨Blk.farSets HB7.out.1 (by omega) [.int .i64 m1, .int .i64 m2, .int .i64 m3] 8, Blk.farSets HB7.out.2.1 (by omega) [.int .i64 m1, .int .i64 m2, .int .i64 m3] 8, Blk.setMid [.int .i64 (off.tmod 604800), .int .i64 ((kd : Int) % 3), .int .i64 (sv.tmod 604800), .string ⟨#[]⟩, .string sF, .bool true, .int .i64 (1850 + (yr : Int) % 300), .int .i64 (1 + (mo : Int) % 12)] [.int .i64 1, .int .i64 0, .int .i64 1] [.int .i64 m1, .int .i64 m2, .int .i64 m3] [.int .i64 0, .int .i64 0] HB7.out.2.2.1 rfl, below_sets (by omega) [.int .i64 m1, .int .i64 m2, .int .i64 m3] 8 _ HB7.out.2.2.2.1, hg⟩)
  go_upto_region 14 with fail
  try simp only [hw8]
  clear hw8 HB7 q8 f8 q9 f9 q10 f10 hlt
  have t6 : w8.cell? ⟨w.heap.size, 6, none⟩ = some (.int .u8 (pt : Int)) := HB8.out.1.cell_ rfl
  have t2 : w8.cell? ⟨w.heap.size, 2, none⟩ = some (.int .i32 at_) := HB8.out.1.cell_ rfl
  have t9 : w8.cell? ⟨w.heap.size, 9, none⟩ = some (.int .u8 (bs : Int)) := HB8.out.1.cell_ rfl
  go_wp2_with fail
  refine (H6.out _).mono ?_
  rintro e w9 ⟨rfl, hb⟩
  have HB9 := Lib.hid (show Blk w9 w.heap.size 43 #[.int .i32 off, .int .i32 sv, .int .i32 at_, .int .u8 (kd : Int), .int .u8 (st : Int), .int .u8 (fm : Int), .int .u8 (pt : Int), .int .u16 (yr : Int), .int .u8 (mo : Int), .int .u8 (bs : Int), .int .u8 (dk : Int), .int .u8 (dw : Int), .int .u8 (dd : Int)] ∧ Blk w9 (w.heap.size + 1) 31 #[.int .i64 0, .int .i64 0, .int .i64 0, .string ⟨#[]⟩, .string ⟨#[]⟩, .bool false, .int .i64 0, .int .i64 0, .int .i64 0, .int .i64 0, .int .i64 0, .int .i64 0, .int .i64 0] ∧ Blk w9 g 31 #[.int .i64 (off.tmod 604800), .int .i64 ((kd : Int) % 3), .int .i64 (sv.tmod 604800), .string ⟨#[]⟩, .string sF, .bool true, .int .i64 (1850 + (yr : Int) % 300), .int .i64 (1 + (mo : Int) % 12), .int .i64 m1, .int .i64 m2, .int .i64 m3, .int .i64 0, .int .i64 0] ∧ Below w.heap.size w w9 ∧ w.heap.size + 2 ≤ g from ⟨HB8.out.1.below hb HB8.out.1.lt, HB8.out.2.1.below hb HB8.out.2.1.lt, HB8.out.2.2.1.below hb HB8.out.2.2.1.lt, HB8.out.2.2.2.1.trans (hb.mono HB8.out.2.2.2.1.size), HB8.out.2.2.2.2⟩)
  clear hb HB8 t6 t2 t9
  have q11 : w9.cell? ⟨g, 11, none⟩ = some (.int .i64 0) := HB9.out.2.2.1.cell_ rfl
  have f11 := HB9.out.2.2.1.frozen 11
  have q12 : w9.cell? ⟨g, 12, none⟩ = some (.int .i64 0) := HB9.out.2.2.1.cell_ rfl
  have f12 := HB9.out.2.2.1.frozen 12
  have hlt := HB9.out.2.2.1.lt
  obtain ⟨w10, hw10⟩ : ∃ W, ((w9.setCell ⟨g, 11, none⟩ (.int .i64 (at_.tmod 604800))).setCell ⟨g, 12, none⟩ (.int .i64 ((bs : Int) % 3))) = W := ⟨_, rfl⟩
  have HB10 := Lib.hid (show Blk w10 w.heap.size 43 #[.int .i32 off, .int .i32 sv, .int .i32 at_, .int .u8 (kd : Int), .int .u8 (st : Int), .int .u8 (fm : Int), .int .u8 (pt : Int), .int .u16 (yr : Int), .int .u8 (mo : Int), .int .u8 (bs : Int), .int .u8 (dk : Int), .int .u8 (dw : Int), .int .u8 (dd : Int)] ∧ Blk w10 (w.heap.size + 1) 31 #[.int .i64 0, .int .i64 0, .int .i64 0, .string ⟨#[]⟩, .string ⟨#[]⟩, .bool false, .int .i64 0, .int .i64 0, .int .i64 0, .int .i64 0, .int .i64 0, .int .i64 0, .int .i64 0] ∧ Blk w10 g 31 #[.int .i64 (off.tmod 604800), .int .i64 ((kd : Int) % 3), .int .i64 (sv.tmod 604800), .string ⟨#[]⟩, .string sF, .bool true, .int .i64 (1850 + (yr : Int) % 300), .int .i64 (1 + (mo : Int) % 12), .int .i64 m1, .int .i64 m2, .int .i64 m3, .int .i64 (at_.tmod 604800), .int .i64 ((bs : Int) % 3)] ∧ Below w.heap.size w w10 ∧ w.heap.size + 2 ≤ g from by
    rw [← hw10]
    have hg := HB9.out.2.2.2.2
    exact ⟨Blk.farSets HB9.out.1 (by omega) [.int .i64 (at_.tmod 604800), .int .i64 ((bs : Int) % 3)] 11, Blk.farSets HB9.out.2.1 (by omega) [.int .i64 (at_.tmod 604800), .int .i64 ((bs : Int) % 3)] 11, Blk.setMid [.int .i64 (off.tmod 604800), .int .i64 ((kd : Int) % 3), .int .i64 (sv.tmod 604800), .string ⟨#[]⟩, .string sF, .bool true, .int .i64 (1850 + (yr : Int) % 300), .int .i64 (1 + (mo : Int) % 12), .int .i64 m1, .int .i64 m2, .int .i64 m3] [.int .i64 0, .int .i64 0] [.int .i64 (at_.tmod 604800), .int .i64 ((bs : Int) % 3)] [] HB9.out.2.2.1 rfl, below_sets (by omega) [.int .i64 (at_.tmod 604800), .int .i64 ((bs : Int) % 3)] 11 _ HB9.out.2.2.2.1, hg⟩)
  go_upto_region 16 with fail
  try simp only [hw10]
  clear hw10 HB9 q11 f11 q12 f12 hlt
  obtain ⟨C, hCC⟩ : ∃ C : Array Value, #[.int .i64 (off.tmod 604800), .int .i64 ((kd : Int) % 3), .int .i64 (sv.tmod 604800), .string ⟨#[]⟩, .string sF, .bool true, .int .i64 (1850 + (yr : Int) % 300), .int .i64 (1 + (mo : Int) % 12), .int .i64 m1, .int .i64 m2, .int .i64 m3, .int .i64 (at_.tmod 604800), .int .i64 ((bs : Int) % 3)] = C := ⟨_, rfl⟩
  have Hi := Lib.hid (show (Tryz.prog.info? 31).map (·.size) = some C.size ∧ C.all (·.oneCell') = true ∧ C.size = 13 from hCC ▸ ⟨infoEra, by simp [Value.oneCell'], rfl⟩)
  rw [hCC] at HB10
  have HCC := Lib.hid hCC
  clear hCC
  go_wp2_with (first
    | (refine wpList_load_row rfl 31 (.tmp 3) rfl g rfl 31 C (0, 0) _ HB10.out.2.2.1 Tryz.underlying31 rfl Hi.out.1 ?_)
    | (refine wpList_store_mid rfl 31 (.tmp 2) (.tmp 81) rfl (w.heap.size + 1) 0 C rfl rfl (HB10.out.2.1.there (by rw [Hi.out.2.2]; decide)) Hi.out.1 Hi.out.2.1 ?_))
  exact bodyPost_ret (results_cell_row rfl _ _ (w.heap.size + 1) 31 C (0, 0) _ rfl (HB10.out.2.1.setAll C Hi.out.2.2) Tryz.underlying31 rfl Hi.out.1) rfl ⟨by rw [← HCC.out], below_sets (by omega) _ _ _ HB10.out.2.2.2.1⟩


set_option maxRecDepth 100000 in
set_option maxHeartbeats 2000000 in
theorem emade_2_0 (off sv at_ : Int) (kd st fm pt yr mo bs dk dw dd : Nat) (m1 m2 m3 : Int) (sF sS : ByteArray) (w : World) (h1 : -2147483648 ≤ off ∧ off ≤ 2147483647) (h2 : -2147483648 ≤ sv ∧ sv ≤ 2147483647) (b1 : kd < 256) (b2 : st < 256) (b3 : fm < 256) (b4 : pt < 256) (b5 : yr < 65536) (b6 : mo < 256)
    (hk : kd % 3 = 2) (hp : pt % 5 = 0) (hF : efmtM fm = sF.data.toList) (hS : esetM st = sS.data.toList)
    (H2 : Hid (∀ W, Calls Tryz.prog 35 #[.agg #[.int .u8 (dk : Int), .int .u8 (dw : Int), .int .u8 (dd : Int)]] W fun e w' => e = .returned (.agg #[.int .i64 m1, .int .i64 m2, .int .i64 m3]) ∧ Below W.heap.size W w'))
    (H6 : Hid (∀ W, Calls Tryz.prog 36 #[.int .i32 at_, .int .u8 (bs : Int)] W fun e w' => e = .returned (.agg #[.int .i64 (at_.tmod 604800), .int .i64 ((bs : Int) % 3)]) ∧ Below W.heap.size W w')) :
    Calls Tryz.prog 15 #[.agg #[.int .i32 off, .int .i32 sv, .int .i32 at_, .int .u8 (kd : Int), .int .u8 (st : Int), .int .u8 (fm : Int), .int .u8 (pt : Int), .int .u16 (yr : Int), .int .u8 (mo : Int), .int .u8 (bs : Int), .int .u8 (dk : Int), .int .u8 (dw : Int), .int .u8 (dd : Int)]] w fun e w' => e = .returned (.agg #[.int .i64 (off.tmod 604800), .int .i64 ((kd : Int) % 3), .int .i64 0, .string sS, .string sF, .bool false, .int .i64 0, .int .i64 0, .int .i64 0, .int .i64 0, .int .i64 0, .int .i64 0, .int .i64 0]) ∧ Below w.heap.size w w' := by
  obtain ⟨h1a, h1b⟩ := h1
  obtain ⟨h2a, h2b⟩ := h2
  obtain ⟨i, hi⟩ : ∃ i, fm % 8 = i := ⟨_, rfl⟩
  obtain ⟨j, hj⟩ : ∃ j, st % 4 = j := ⟨_, rfl⟩
  have hi8 : i < 8 := by omega
  have hj4 : j < 4 := by omega
  have Hc1 := Lib.hid (show ∀ W g, Blk W g 9 #[.string ⟨#[71, 77, 84]⟩, .string ⟨#[65, 47, 66]⟩, .string ⟨#[37, 115]⟩, .string ⟨#[37, 122]⟩, .string ⟨#[43, 48, 53]⟩, .string ⟨#[43, 48, 53, 47, 43, 48, 54]⟩, .string ⟨#[67, 37, 115, 84]⟩, .string ⟨#[45, 48, 48]⟩] → W.cell? ⟨g, i, none⟩ = some (.string sF) from fun W g h => h.cell_ (by
    rw [show sF = ⟨(efmtM fm).toArray⟩ by rw [hF, ba_list], efmtM, hi]
    rcases (by omega : i = 0 ∨ i = 1 ∨ i = 2 ∨ i = 3 ∨ i = 4 ∨ i = 5 ∨ i = 6 ∨ i = 7) with h | h | h | h | h | h | h | h <;> subst h <;> rfl))
  have Hc2 := Lib.hid (show ∀ W g, Blk W g 9 #[.string ⟨#[69, 105, 114, 101]⟩, .string ⟨#[82]⟩, .string ⟨#[67, 45, 69, 117, 114]⟩, .string ⟨#[97, 95, 49]⟩] → W.cell? ⟨g, j, none⟩ = some (.string sS) from fun W g h => h.cell_ (by
    rw [show sS = ⟨(esetM st).toArray⟩ by rw [hS, ba_list], esetM, hj]
    rcases (by omega : j = 0 ∨ j = 1 ∨ j = 2 ∨ j = 3) with h | h | h | h <;> subst h <;> rfl))
  have htm : ∀ (a : Nat) (b : Int), (a : Int).tmod b = (a : Int) % b := fun a b => Int.tmod_eq_emod_of_nonneg (by omega)
  have hw1 : IntKind.i64.wrap off = off := IntWalk.i64_in _ (by omega)
  have hw2 : IntKind.i64.wrap sv = sv := IntWalk.i64_in _ (by omega)
  have hw3 : IntKind.i64.wrap ((kd : Int) % 3) = (kd : Int) % 3 := IntWalk.i64_in _ (by omega)
  have hiA : (0 : Int) ≤ (i : Int) := by omega
  have hiB : (i : Int) < 8 := by omega
  have hjA : (0 : Int) ≤ (j : Int) := by omega
  have hjB : (j : Int) < 4 := by omega
  have hiI : (fm : Int) % 8 = (i : Int) := by omega
  have hjI : (st : Int) % 4 = (j : Int) := by omega
  have e1 : ((kd : Int) % 3 == 1) = false := by rw [beq_eq_false_iff_ne]; omega
  have e2 : ((kd : Int) % 3 == 2) = true := by rw [beq_iff_eq]; omega
  have p0 : ((pt : Int) % 5 == 0) = true := by rw [beq_iff_eq]; omega
  have g1 : decide (1 < (pt : Int) % 5) = false := decide_eq_false (by omega)
  have g2 : decide (2 < (pt : Int) % 5) = false := decide_eq_false (by omega)
  have g3 : decide (3 < (pt : Int) % 5) = false := decide_eq_false (by omega)
  clear hk hp hF hS hi hj hi8 hj4
  go_enter Tryz.func15, Tryz.ntmps15
  go_upto_region 1 with fail
  have HG : EHeld w off sv at_ kd st fm pt yr mo bs dk dw dd ((w.alloc (.cells #[.int .i32 off, .int .i32 sv, .int .i32 at_, .int .u8 (kd : Int), .int .u8 (st : Int), .int .u8 (fm : Int), .int .u8 (pt : Int), .int .u16 (yr : Int), .int .u8 (mo : Int), .int .u8 (bs : Int), .int .u8 (dk : Int), .int .u8 (dw : Int), .int .u8 (dd : Int)] 43)).alloc (.cells #[.int .i64 0, .int .i64 0, .int .i64 0, .string ⟨#[]⟩, .string ⟨#[]⟩, .bool false, .int .i64 0, .int .i64 0, .int .i64 0, .int .i64 0, .int .i64 0, .int .i64 0, .int .i64 0] 31)) := ⟨(Blk.new' _ _ _ rfl).alloc _, Blk.new' _ _ _ (by simp), by go_grown⟩
  refine wp_region_rels 16 [[], [], [], [], [], [], [], [], [], [], [], [], [8], [12], [], []] [Form.val, Form.val, Form.val, Form.val, Form.val, Form.val, Form.val, Form.val, Form.rel (TabIs 8 #[.string ⟨#[71, 77, 84]⟩, .string ⟨#[65, 47, 66]⟩, .string ⟨#[37, 115]⟩, .string ⟨#[37, 122]⟩, .string ⟨#[43, 48, 53]⟩, .string ⟨#[43, 48, 53, 47, 43, 48, 54]⟩, .string ⟨#[67, 37, 115, 84]⟩, .string ⟨#[45, 48, 48]⟩]), Form.val, Form.val, Form.val, Form.rel (PtrIs i #[.string ⟨#[71, 77, 84]⟩, .string ⟨#[65, 47, 66]⟩, .string ⟨#[37, 115]⟩, .string ⟨#[37, 122]⟩, .string ⟨#[43, 48, 53]⟩, .string ⟨#[43, 48, 53, 47, 43, 48, 54]⟩, .string ⟨#[67, 37, 115, 84]⟩, .string ⟨#[45, 48, 48]⟩]), Form.val, Form.val, Form.rel (NewEra (w.heap.size + 2))] (EHeld w off sv at_ kd st fm pt yr mo bs dk dw dd) (by kernel_rfl) (by kernel_rfl) rfl rfl (⟨HG.1, HG.2.1, HG.2.2.drew⟩) (fun W W' h hb => ⟨h.1.below hb h.1.lt, h.2.1.below hb h.2.1.lt, h.2.2.trans (hb.mono h.2.2.size)⟩) ⟨TabIs.lasts _ _, PtrIs.lasts _ _, NewEra.lasts _, trivial⟩ ?_
  repeat (first | apply exSpec_rel | apply exSpec_new | apply exSpec_val)
  apply relWalk_ex rfl ?o0 (fun K hK => ?n0)
  case o0 =>
    intro W hC hF
    obtain ⟨q0, q1, q2, q3, q4, q5, q6, q7, q8, q9, q10, q11, q12⟩ := hC.cells
    go_simp
    all_goals exact ⟨Below.refl _ _, rfl⟩
  case' n0 =>
    go_simp
    refine hK _ ?_
    clear hK K
  apply relWalk_ex rfl ?o1 (fun K hK => ?n1)
  case o1 =>
    intro W hC hF
    obtain ⟨q0, q1, q2, q3, q4, q5, q6, q7, q8, q9, q10, q11, q12⟩ := hC.cells
    go_simp
    all_goals exact ⟨Below.refl _ _, rfl⟩
  case' n1 =>
    go_simp
    refine hK _ ?_
    clear hK K
  apply relWalk_ex rfl ?o2 (fun K hK => ?n2)
  case o2 =>
    intro W hC hF
    obtain ⟨q0, q1, q2, q3, q4, q5, q6, q7, q8, q9, q10, q11, q12⟩ := hC.cells
    go_simp
    all_goals exact ⟨Below.refl _ _, rfl⟩
  case' n2 =>
    go_simp
    refine hK _ ?_
    clear hK K
  apply relWalk_ex rfl ?o3 (fun K hK => ?n3)
  case o3 =>
    intro W hC hF
    obtain ⟨q0, q1, q2, q3, q4, q5, q6, q7, q8, q9, q10, q11, q12⟩ := hC.cells
    go_simp
    all_goals exact ⟨Below.refl _ _, rfl⟩
  case' n3 =>
    go_simp
    refine hK _ ?_
    clear hK K
  apply relWalk_ex rfl ?o4 (fun K hK => ?n4)
  case o4 =>
    intro W hC hF
    obtain ⟨q0, q1, q2, q3, q4, q5, q6, q7, q8, q9, q10, q11, q12⟩ := hC.cells
    go_simp
    all_goals exact ⟨Below.refl _ _, rfl⟩
  case' n4 =>
    go_simp
    refine hK _ ?_
    clear hK K
  apply relWalk_ex rfl ?o5 (fun K hK => ?n5)
  case o5 =>
    intro W hC hF
    obtain ⟨q0, q1, q2, q3, q4, q5, q6, q7, q8, q9, q10, q11, q12⟩ := hC.cells
    go_simp
    all_goals exact ⟨Below.refl _ _, rfl⟩
  case' n5 =>
    go_simp
    refine hK _ ?_
    clear hK K
  apply relWalk_ex rfl ?o6 (fun K hK => ?n6)
  case o6 =>
    intro W hC hF
    obtain ⟨q0, q1, q2, q3, q4, q5, q6, q7, q8, q9, q10, q11, q12⟩ := hC.cells
    go_simp
    all_goals exact ⟨Below.refl _ _, rfl⟩
  case' n6 =>
    go_simp
    refine hK _ ?_
    clear hK K
  apply relWalk_ex rfl ?o7 (fun K hK => ?n7)
  case o7 =>
    intro W hC hF
    obtain ⟨q0, q1, q2, q3, q4, q5, q6, q7, q8, q9, q10, q11, q12⟩ := hC.cells
    go_simp
    all_goals exact ⟨Below.refl _ _, rfl⟩
  case' n7 =>
    go_simp
    refine hK _ ?_
    clear hK K
  apply relWalk_rel rfl ?o8 (fun u8 K hK => ?n8)
  case o8 =>
    intro W hC hF
    obtain ⟨q0, q1, q2, q3, q4, q5, q6, q7, q8, q9, q10, q11, q12⟩ := hC.cells
    go_simp
    all_goals exact ⟨by go_grown, _, rfl, Blk.new _ _ _⟩
  case' n8 =>
    go_simp
    refine hK _ ?_
    clear hK K
  apply relWalk_ex rfl ?o9 (fun K hK => ?n9)
  case o9 =>
    intro W hC hF
    obtain ⟨q0, q1, q2, q3, q4, q5, q6, q7, q8, q9, q10, q11, q12⟩ := hC.cells
    go_simp
    all_goals exact ⟨Below.refl _ _, rfl⟩
  case' n9 =>
    go_simp
    refine hK _ ?_
    clear hK K
  apply relWalk_ex rfl ?o10 (fun K hK => ?n10)
  case o10 =>
    intro W hC hF
    obtain ⟨q0, q1, q2, q3, q4, q5, q6, q7, q8, q9, q10, q11, q12⟩ := hC.cells
    go_simp
    all_goals exact ⟨Below.refl _ _, rfl⟩
  case' n10 =>
    go_simp
    refine hK _ ?_
    clear hK K
  apply relWalk_ex rfl ?o11 (fun K hK => ?n11)
  case o11 =>
    intro W hC hF
    obtain ⟨q0, q1, q2, q3, q4, q5, q6, q7, q8, q9, q10, q11, q12⟩ := hC.cells
    go_simp
    all_goals exact ⟨Below.refl _ _, rfl⟩
  case' n11 =>
    go_simp
    refine hK _ ?_
    clear hK K
  apply relWalk_rel rfl ?o12 (fun u12 K hK => ?n12)
  case o12 =>
    intro W hC hF
    obtain ⟨⟨g, rfl, hB⟩, -⟩ := hF
    obtain ⟨q0, q1, q2, q3, q4, q5, q6, q7, q8, q9, q10, q11, q12⟩ := hC.cells
    go_simp
    all_goals exact ⟨by go_grown, g, rfl, hB⟩
  case' n12 =>
    go_simp
    refine hK _ ?_
    clear hK K
  apply relWalk_ex rfl ?o13 (fun K hK => ?n13)
  case o13 =>
    intro W hC hF
    obtain ⟨⟨g, rfl, hB⟩, -⟩ := hF
    have hx : W.cell? ⟨g, i, none⟩ = some (.string sF) := Hc1.out W g hB
    obtain ⟨q0, q1, q2, q3, q4, q5, q6, q7, q8, q9, q10, q11, q12⟩ := hC.cells
    go_simp
    all_goals exact ⟨Below.refl _ _, rfl⟩
  case' n13 =>
    go_simp
    refine hK _ ?_
    clear hK K
  apply relWalk_ex rfl ?o14 (fun K hK => ?n14)
  case o14 =>
    intro W hC hF
    obtain ⟨q0, q1, q2, q3, q4, q5, q6, q7, q8, q9, q10, q11, q12⟩ := hC.cells
    go_simp
    all_goals exact ⟨Below.refl _ _, rfl⟩
  case' n14 =>
    go_simp
    refine hK _ ?_
    clear hK K
  apply relWalk_rel rfl ?o15 (fun u15 K hK => ?n15)
  case o15 =>
    intro W hC hF
    obtain ⟨q0, q1, q2, q3, q4, q5, q6, q7, q8, q9, q10, q11, q12⟩ := hC.cells
    go_simp
    all_goals exact ⟨by go_grown, _, rfl, hC.2.1.lt, Blk.new _ _ _⟩
  case' n15 =>
    go_simp
    refine hK _ ?_
    clear hK K
  apply relWalk_end
  intro W hC hF hU
  obtain ⟨⟨g, rfl, hg, hB⟩, -⟩ := hF
  obtain ⟨hD, hZ, hb⟩ := hC
  refine wpList_store_mid rfl 31 (.tmp 3) (.tmp 18) rfl g 0 #[.int .i64 (off.tmod 604800), .int .i64 ((kd : Int) % 3), .int .i64 0, .string ⟨#[]⟩, .string sF, .bool false, .int .i64 0, .int .i64 0, .int .i64 0, .int .i64 0, .int .i64 0, .int .i64 0, .int .i64 0] rfl rfl (hB.there (Nat.le_refl _)) infoEra (by simp [Value.oneCell']) ?_
  have HB2 := Lib.hid (show Blk (W.setCells g 0 #[.int .i64 (off.tmod 604800), .int .i64 ((kd : Int) % 3), .int .i64 0, .string ⟨#[]⟩, .string sF, .bool false, .int .i64 0, .int .i64 0, .int .i64 0, .int .i64 0, .int .i64 0, .int .i64 0, .int .i64 0].toList) w.heap.size 43 #[.int .i32 off, .int .i32 sv, .int .i32 at_, .int .u8 (kd : Int), .int .u8 (st : Int), .int .u8 (fm : Int), .int .u8 (pt : Int), .int .u16 (yr : Int), .int .u8 (mo : Int), .int .u8 (bs : Int), .int .u8 (dk : Int), .int .u8 (dw : Int), .int .u8 (dd : Int)] ∧ Blk (W.setCells g 0 #[.int .i64 (off.tmod 604800), .int .i64 ((kd : Int) % 3), .int .i64 0, .string ⟨#[]⟩, .string sF, .bool false, .int .i64 0, .int .i64 0, .int .i64 0, .int .i64 0, .int .i64 0, .int .i64 0, .int .i64 0].toList) (w.heap.size + 1) 31 #[.int .i64 0, .int .i64 0, .int .i64 0, .string ⟨#[]⟩, .string ⟨#[]⟩, .bool false, .int .i64 0, .int .i64 0, .int .i64 0, .int .i64 0, .int .i64 0, .int .i64 0, .int .i64 0] ∧ Blk (W.setCells g 0 #[.int .i64 (off.tmod 604800), .int .i64 ((kd : Int) % 3), .int .i64 0, .string ⟨#[]⟩, .string sF, .bool false, .int .i64 0, .int .i64 0, .int .i64 0, .int .i64 0, .int .i64 0, .int .i64 0, .int .i64 0].toList) g 31 #[.int .i64 (off.tmod 604800), .int .i64 ((kd : Int) % 3), .int .i64 0, .string ⟨#[]⟩, .string sF, .bool false, .int .i64 0, .int .i64 0, .int .i64 0, .int .i64 0, .int .i64 0, .int .i64 0, .int .i64 0] ∧ Below w.heap.size w (W.setCells g 0 #[.int .i64 (off.tmod 604800), .int .i64 ((kd : Int) % 3), .int .i64 0, .string ⟨#[]⟩, .string sF, .bool false, .int .i64 0, .int .i64 0, .int .i64 0, .int .i64 0, .int .i64 0, .int .i64 0, .int .i64 0].toList) ∧ w.heap.size + 2 ≤ g from ⟨Blk.farSets hD (by omega) _ _, Blk.farSets hZ (by omega) _ _, hB.setAll #[.int .i64 (off.tmod 604800), .int .i64 ((kd : Int) % 3), .int .i64 0, .string ⟨#[]⟩, .string sF, .bool false, .int .i64 0, .int .i64 0, .int .i64 0, .int .i64 0, .int .i64 0, .int .i64 0, .int .i64 0] rfl, below_sets (by omega) _ _ _ hb, hg⟩)
  clear hU hD hZ hb hB hg HG htm hw1 hw3 Hc1 hiA hiB hiI
  generalize W.setCells g 0 #[.int .i64 (off.tmod 604800), .int .i64 ((kd : Int) % 3), .int .i64 0, .string ⟨#[]⟩, .string sF, .bool false, .int .i64 0, .int .i64 0, .int .i64 0, .int .i64 0, .int .i64 0, .int .i64 0, .int .i64 0].toList = w2 at *
  have k1 : w2.cell? ⟨g, 1, none⟩ = some (.int .i64 ((kd : Int) % 3)) := HB2.out.2.2.1.cell_ rfl
  have t4 : w2.cell? ⟨w.heap.size, 4, none⟩ = some (.int .u8 (st : Int)) := HB2.out.1.cell_ rfl
  have t6 : w2.cell? ⟨w.heap.size, 6, none⟩ = some (.int .u8 (pt : Int)) := HB2.out.1.cell_ rfl
  have q3 : w2.cell? ⟨g, 3, none⟩ = some (.string ⟨#[]⟩) := HB2.out.2.2.1.cell_ rfl
  have f3 := HB2.out.2.2.1.frozen 3
  have hlt := HB2.out.2.2.1.lt
  have hltD := HB2.out.1.lt
  have hx : (#[.string ⟨#[69, 105, 114, 101]⟩, .string ⟨#[82]⟩, .string ⟨#[67, 45, 69, 117, 114]⟩, .string ⟨#[97, 95, 49]⟩] : Array Value)[j]? = some (.string sS) := by
    have := Hc2.out _ _ (Blk.new' w2 9 #[.string ⟨#[69, 105, 114, 101]⟩, .string ⟨#[82]⟩, .string ⟨#[67, 45, 69, 117, 114]⟩, .string ⟨#[97, 95, 49]⟩] rfl)
    rwa [(Blk.new' w2 9 #[.string ⟨#[69, 105, 114, 101]⟩, .string ⟨#[82]⟩, .string ⟨#[67, 45, 69, 117, 114]⟩, .string ⟨#[97, 95, 49]⟩] rfl).cell] at this
  go_upto_region 7 with fail
  have HB3 := Lib.hid (show Blk ((w2.setCell ⟨g, 3, none⟩ (.string sS)).alloc (.cells #[.string ⟨#[69, 105, 114, 101]⟩, .string ⟨#[82]⟩, .string ⟨#[67, 45, 69, 117, 114]⟩, .string ⟨#[97, 95, 49]⟩] 9)) w.heap.size 43 #[.int .i32 off, .int .i32 sv, .int .i32 at_, .int .u8 (kd : Int), .int .u8 (st : Int), .int .u8 (fm : Int), .int .u8 (pt : Int), .int .u16 (yr : Int), .int .u8 (mo : Int), .int .u8 (bs : Int), .int .u8 (dk : Int), .int .u8 (dw : Int), .int .u8 (dd : Int)] ∧ Blk ((w2.setCell ⟨g, 3, none⟩ (.string sS)).alloc (.cells #[.string ⟨#[69, 105, 114, 101]⟩, .string ⟨#[82]⟩, .string ⟨#[67, 45, 69, 117, 114]⟩, .string ⟨#[97, 95, 49]⟩] 9)) (w.heap.size + 1) 31 #[.int .i64 0, .int .i64 0, .int .i64 0, .string ⟨#[]⟩, .string ⟨#[]⟩, .bool false, .int .i64 0, .int .i64 0, .int .i64 0, .int .i64 0, .int .i64 0, .int .i64 0, .int .i64 0] ∧ Blk ((w2.setCell ⟨g, 3, none⟩ (.string sS)).alloc (.cells #[.string ⟨#[69, 105, 114, 101]⟩, .string ⟨#[82]⟩, .string ⟨#[67, 45, 69, 117, 114]⟩, .string ⟨#[97, 95, 49]⟩] 9)) g 31 #[.int .i64 (off.tmod 604800), .int .i64 ((kd : Int) % 3), .int .i64 0, .string sS, .string sF, .bool false, .int .i64 0, .int .i64 0, .int .i64 0, .int .i64 0, .int .i64 0, .int .i64 0, .int .i64 0] ∧ Below w.heap.size w ((w2.setCell ⟨g, 3, none⟩ (.string sS)).alloc (.cells #[.string ⟨#[69, 105, 114, 101]⟩, .string ⟨#[82]⟩, .string ⟨#[67, 45, 69, 117, 114]⟩, .string ⟨#[97, 95, 49]⟩] 9)) ∧ w.heap.size + 2 ≤ g from ⟨(HB2.out.1.far (by have := HB2.out.2.2.2.2; simp; omega) _).alloc _, (HB2.out.2.1.far (by have := HB2.out.2.2.2.2; simp; omega) _).alloc _, (HB2.out.2.2.1.set_ 3 _).alloc _, rbelow_alloc (HB2.out.2.2.2.1.setCell (by have := HB2.out.2.2.2.2; simp; omega) _) _, HB2.out.2.2.2.2⟩)
  generalize ((w2.setCell ⟨g, 3, none⟩ (.string sS)).alloc (.cells #[.string ⟨#[69, 105, 114, 101]⟩, .string ⟨#[82]⟩, .string ⟨#[67, 45, 69, 117, 114]⟩, .string ⟨#[97, 95, 49]⟩] 9)) = w3 at *
  clear HB2 q3 f3 hlt t4 t6 k1 hltD hx
  have t6 : w3.cell? ⟨w.heap.size, 6, none⟩ = some (.int .u8 (pt : Int)) := HB3.out.1.cell_ rfl
  obtain ⟨C, hCC⟩ : ∃ C : Array Value, #[.int .i64 (off.tmod 604800), .int .i64 ((kd : Int) % 3), .int .i64 0, .string sS, .string sF, .bool false, .int .i64 0, .int .i64 0, .int .i64 0, .int .i64 0, .int .i64 0, .int .i64 0, .int .i64 0] = C := ⟨_, rfl⟩
  have Hi := Lib.hid (show (Tryz.prog.info? 31).map (·.size) = some C.size ∧ C.all (·.oneCell') = true ∧ C.size = 13 from hCC ▸ ⟨infoEra, by simp [Value.oneCell'], rfl⟩)
  rw [hCC] at HB3
  have HCC := Lib.hid hCC
  clear hCC
  go_wp2_with (first
    | (refine wpList_load_row rfl 31 (.tmp 3) rfl g rfl 31 C (0, 0) _ HB3.out.2.2.1 Tryz.underlying31 rfl Hi.out.1 ?_)
    | (refine wpList_store_mid rfl 31 (.tmp 2) (.tmp 41) rfl (w.heap.size + 1) 0 C rfl rfl (HB3.out.2.1.there (by rw [Hi.out.2.2]; decide)) Hi.out.1 Hi.out.2.1 ?_))
  exact bodyPost_ret (results_cell_row rfl _ _ (w.heap.size + 1) 31 C (0, 0) _ rfl (HB3.out.2.1.setAll C Hi.out.2.2) Tryz.underlying31 rfl Hi.out.1) rfl ⟨by rw [← HCC.out], below_sets (by omega) _ _ _ HB3.out.2.2.2.1⟩

set_option maxRecDepth 100000 in
set_option maxHeartbeats 2000000 in
theorem emade_2_1 (off sv at_ : Int) (kd st fm pt yr mo bs dk dw dd : Nat) (m1 m2 m3 : Int) (sF sS : ByteArray) (w : World) (h1 : -2147483648 ≤ off ∧ off ≤ 2147483647) (h2 : -2147483648 ≤ sv ∧ sv ≤ 2147483647) (b1 : kd < 256) (b2 : st < 256) (b3 : fm < 256) (b4 : pt < 256) (b5 : yr < 65536) (b6 : mo < 256)
    (hk : kd % 3 = 2) (hp : pt % 5 = 1) (hF : efmtM fm = sF.data.toList) (hS : esetM st = sS.data.toList)
    (H2 : Hid (∀ W, Calls Tryz.prog 35 #[.agg #[.int .u8 (dk : Int), .int .u8 (dw : Int), .int .u8 (dd : Int)]] W fun e w' => e = .returned (.agg #[.int .i64 m1, .int .i64 m2, .int .i64 m3]) ∧ Below W.heap.size W w'))
    (H6 : Hid (∀ W, Calls Tryz.prog 36 #[.int .i32 at_, .int .u8 (bs : Int)] W fun e w' => e = .returned (.agg #[.int .i64 (at_.tmod 604800), .int .i64 ((bs : Int) % 3)]) ∧ Below W.heap.size W w')) :
    Calls Tryz.prog 15 #[.agg #[.int .i32 off, .int .i32 sv, .int .i32 at_, .int .u8 (kd : Int), .int .u8 (st : Int), .int .u8 (fm : Int), .int .u8 (pt : Int), .int .u16 (yr : Int), .int .u8 (mo : Int), .int .u8 (bs : Int), .int .u8 (dk : Int), .int .u8 (dw : Int), .int .u8 (dd : Int)]] w fun e w' => e = .returned (.agg #[.int .i64 (off.tmod 604800), .int .i64 ((kd : Int) % 3), .int .i64 0, .string sS, .string sF, .bool true, .int .i64 (1850 + (yr : Int) % 300), .int .i64 1, .int .i64 1, .int .i64 0, .int .i64 1, .int .i64 0, .int .i64 0]) ∧ Below w.heap.size w w' := by
  obtain ⟨h1a, h1b⟩ := h1
  obtain ⟨h2a, h2b⟩ := h2
  obtain ⟨i, hi⟩ : ∃ i, fm % 8 = i := ⟨_, rfl⟩
  obtain ⟨j, hj⟩ : ∃ j, st % 4 = j := ⟨_, rfl⟩
  have hi8 : i < 8 := by omega
  have hj4 : j < 4 := by omega
  have Hc1 := Lib.hid (show ∀ W g, Blk W g 9 #[.string ⟨#[71, 77, 84]⟩, .string ⟨#[65, 47, 66]⟩, .string ⟨#[37, 115]⟩, .string ⟨#[37, 122]⟩, .string ⟨#[43, 48, 53]⟩, .string ⟨#[43, 48, 53, 47, 43, 48, 54]⟩, .string ⟨#[67, 37, 115, 84]⟩, .string ⟨#[45, 48, 48]⟩] → W.cell? ⟨g, i, none⟩ = some (.string sF) from fun W g h => h.cell_ (by
    rw [show sF = ⟨(efmtM fm).toArray⟩ by rw [hF, ba_list], efmtM, hi]
    rcases (by omega : i = 0 ∨ i = 1 ∨ i = 2 ∨ i = 3 ∨ i = 4 ∨ i = 5 ∨ i = 6 ∨ i = 7) with h | h | h | h | h | h | h | h <;> subst h <;> rfl))
  have Hc2 := Lib.hid (show ∀ W g, Blk W g 9 #[.string ⟨#[69, 105, 114, 101]⟩, .string ⟨#[82]⟩, .string ⟨#[67, 45, 69, 117, 114]⟩, .string ⟨#[97, 95, 49]⟩] → W.cell? ⟨g, j, none⟩ = some (.string sS) from fun W g h => h.cell_ (by
    rw [show sS = ⟨(esetM st).toArray⟩ by rw [hS, ba_list], esetM, hj]
    rcases (by omega : j = 0 ∨ j = 1 ∨ j = 2 ∨ j = 3) with h | h | h | h <;> subst h <;> rfl))
  have htm : ∀ (a : Nat) (b : Int), (a : Int).tmod b = (a : Int) % b := fun a b => Int.tmod_eq_emod_of_nonneg (by omega)
  have hw1 : IntKind.i64.wrap off = off := IntWalk.i64_in _ (by omega)
  have hw2 : IntKind.i64.wrap sv = sv := IntWalk.i64_in _ (by omega)
  have hw3 : IntKind.i64.wrap ((kd : Int) % 3) = (kd : Int) % 3 := IntWalk.i64_in _ (by omega)
  have hiA : (0 : Int) ≤ (i : Int) := by omega
  have hiB : (i : Int) < 8 := by omega
  have hjA : (0 : Int) ≤ (j : Int) := by omega
  have hjB : (j : Int) < 4 := by omega
  have hiI : (fm : Int) % 8 = (i : Int) := by omega
  have hjI : (st : Int) % 4 = (j : Int) := by omega
  have e1 : ((kd : Int) % 3 == 1) = false := by rw [beq_eq_false_iff_ne]; omega
  have e2 : ((kd : Int) % 3 == 2) = true := by rw [beq_iff_eq]; omega
  have p0 : ((pt : Int) % 5 == 0) = false := by rw [beq_eq_false_iff_ne]; omega
  have g1 : decide (1 < (pt : Int) % 5) = false := decide_eq_false (by omega)
  have g2 : decide (2 < (pt : Int) % 5) = false := decide_eq_false (by omega)
  have g3 : decide (3 < (pt : Int) % 5) = false := decide_eq_false (by omega)
  clear hk hp hF hS hi hj hi8 hj4
  go_enter Tryz.func15, Tryz.ntmps15
  go_upto_region 1 with fail
  have HG : EHeld w off sv at_ kd st fm pt yr mo bs dk dw dd ((w.alloc (.cells #[.int .i32 off, .int .i32 sv, .int .i32 at_, .int .u8 (kd : Int), .int .u8 (st : Int), .int .u8 (fm : Int), .int .u8 (pt : Int), .int .u16 (yr : Int), .int .u8 (mo : Int), .int .u8 (bs : Int), .int .u8 (dk : Int), .int .u8 (dw : Int), .int .u8 (dd : Int)] 43)).alloc (.cells #[.int .i64 0, .int .i64 0, .int .i64 0, .string ⟨#[]⟩, .string ⟨#[]⟩, .bool false, .int .i64 0, .int .i64 0, .int .i64 0, .int .i64 0, .int .i64 0, .int .i64 0, .int .i64 0] 31)) := ⟨(Blk.new' _ _ _ rfl).alloc _, Blk.new' _ _ _ (by simp), by go_grown⟩
  refine wp_region_rels 16 [[], [], [], [], [], [], [], [], [], [], [], [], [8], [12], [], []] [Form.val, Form.val, Form.val, Form.val, Form.val, Form.val, Form.val, Form.val, Form.rel (TabIs 8 #[.string ⟨#[71, 77, 84]⟩, .string ⟨#[65, 47, 66]⟩, .string ⟨#[37, 115]⟩, .string ⟨#[37, 122]⟩, .string ⟨#[43, 48, 53]⟩, .string ⟨#[43, 48, 53, 47, 43, 48, 54]⟩, .string ⟨#[67, 37, 115, 84]⟩, .string ⟨#[45, 48, 48]⟩]), Form.val, Form.val, Form.val, Form.rel (PtrIs i #[.string ⟨#[71, 77, 84]⟩, .string ⟨#[65, 47, 66]⟩, .string ⟨#[37, 115]⟩, .string ⟨#[37, 122]⟩, .string ⟨#[43, 48, 53]⟩, .string ⟨#[43, 48, 53, 47, 43, 48, 54]⟩, .string ⟨#[67, 37, 115, 84]⟩, .string ⟨#[45, 48, 48]⟩]), Form.val, Form.val, Form.rel (NewEra (w.heap.size + 2))] (EHeld w off sv at_ kd st fm pt yr mo bs dk dw dd) (by kernel_rfl) (by kernel_rfl) rfl rfl (⟨HG.1, HG.2.1, HG.2.2.drew⟩) (fun W W' h hb => ⟨h.1.below hb h.1.lt, h.2.1.below hb h.2.1.lt, h.2.2.trans (hb.mono h.2.2.size)⟩) ⟨TabIs.lasts _ _, PtrIs.lasts _ _, NewEra.lasts _, trivial⟩ ?_
  repeat (first | apply exSpec_rel | apply exSpec_new | apply exSpec_val)
  apply relWalk_ex rfl ?o0 (fun K hK => ?n0)
  case o0 =>
    intro W hC hF
    obtain ⟨q0, q1, q2, q3, q4, q5, q6, q7, q8, q9, q10, q11, q12⟩ := hC.cells
    go_simp
    all_goals exact ⟨Below.refl _ _, rfl⟩
  case' n0 =>
    go_simp
    refine hK _ ?_
    clear hK K
  apply relWalk_ex rfl ?o1 (fun K hK => ?n1)
  case o1 =>
    intro W hC hF
    obtain ⟨q0, q1, q2, q3, q4, q5, q6, q7, q8, q9, q10, q11, q12⟩ := hC.cells
    go_simp
    all_goals exact ⟨Below.refl _ _, rfl⟩
  case' n1 =>
    go_simp
    refine hK _ ?_
    clear hK K
  apply relWalk_ex rfl ?o2 (fun K hK => ?n2)
  case o2 =>
    intro W hC hF
    obtain ⟨q0, q1, q2, q3, q4, q5, q6, q7, q8, q9, q10, q11, q12⟩ := hC.cells
    go_simp
    all_goals exact ⟨Below.refl _ _, rfl⟩
  case' n2 =>
    go_simp
    refine hK _ ?_
    clear hK K
  apply relWalk_ex rfl ?o3 (fun K hK => ?n3)
  case o3 =>
    intro W hC hF
    obtain ⟨q0, q1, q2, q3, q4, q5, q6, q7, q8, q9, q10, q11, q12⟩ := hC.cells
    go_simp
    all_goals exact ⟨Below.refl _ _, rfl⟩
  case' n3 =>
    go_simp
    refine hK _ ?_
    clear hK K
  apply relWalk_ex rfl ?o4 (fun K hK => ?n4)
  case o4 =>
    intro W hC hF
    obtain ⟨q0, q1, q2, q3, q4, q5, q6, q7, q8, q9, q10, q11, q12⟩ := hC.cells
    go_simp
    all_goals exact ⟨Below.refl _ _, rfl⟩
  case' n4 =>
    go_simp
    refine hK _ ?_
    clear hK K
  apply relWalk_ex rfl ?o5 (fun K hK => ?n5)
  case o5 =>
    intro W hC hF
    obtain ⟨q0, q1, q2, q3, q4, q5, q6, q7, q8, q9, q10, q11, q12⟩ := hC.cells
    go_simp
    all_goals exact ⟨Below.refl _ _, rfl⟩
  case' n5 =>
    go_simp
    refine hK _ ?_
    clear hK K
  apply relWalk_ex rfl ?o6 (fun K hK => ?n6)
  case o6 =>
    intro W hC hF
    obtain ⟨q0, q1, q2, q3, q4, q5, q6, q7, q8, q9, q10, q11, q12⟩ := hC.cells
    go_simp
    all_goals exact ⟨Below.refl _ _, rfl⟩
  case' n6 =>
    go_simp
    refine hK _ ?_
    clear hK K
  apply relWalk_ex rfl ?o7 (fun K hK => ?n7)
  case o7 =>
    intro W hC hF
    obtain ⟨q0, q1, q2, q3, q4, q5, q6, q7, q8, q9, q10, q11, q12⟩ := hC.cells
    go_simp
    all_goals exact ⟨Below.refl _ _, rfl⟩
  case' n7 =>
    go_simp
    refine hK _ ?_
    clear hK K
  apply relWalk_rel rfl ?o8 (fun u8 K hK => ?n8)
  case o8 =>
    intro W hC hF
    obtain ⟨q0, q1, q2, q3, q4, q5, q6, q7, q8, q9, q10, q11, q12⟩ := hC.cells
    go_simp
    all_goals exact ⟨by go_grown, _, rfl, Blk.new _ _ _⟩
  case' n8 =>
    go_simp
    refine hK _ ?_
    clear hK K
  apply relWalk_ex rfl ?o9 (fun K hK => ?n9)
  case o9 =>
    intro W hC hF
    obtain ⟨q0, q1, q2, q3, q4, q5, q6, q7, q8, q9, q10, q11, q12⟩ := hC.cells
    go_simp
    all_goals exact ⟨Below.refl _ _, rfl⟩
  case' n9 =>
    go_simp
    refine hK _ ?_
    clear hK K
  apply relWalk_ex rfl ?o10 (fun K hK => ?n10)
  case o10 =>
    intro W hC hF
    obtain ⟨q0, q1, q2, q3, q4, q5, q6, q7, q8, q9, q10, q11, q12⟩ := hC.cells
    go_simp
    all_goals exact ⟨Below.refl _ _, rfl⟩
  case' n10 =>
    go_simp
    refine hK _ ?_
    clear hK K
  apply relWalk_ex rfl ?o11 (fun K hK => ?n11)
  case o11 =>
    intro W hC hF
    obtain ⟨q0, q1, q2, q3, q4, q5, q6, q7, q8, q9, q10, q11, q12⟩ := hC.cells
    go_simp
    all_goals exact ⟨Below.refl _ _, rfl⟩
  case' n11 =>
    go_simp
    refine hK _ ?_
    clear hK K
  apply relWalk_rel rfl ?o12 (fun u12 K hK => ?n12)
  case o12 =>
    intro W hC hF
    obtain ⟨⟨g, rfl, hB⟩, -⟩ := hF
    obtain ⟨q0, q1, q2, q3, q4, q5, q6, q7, q8, q9, q10, q11, q12⟩ := hC.cells
    go_simp
    all_goals exact ⟨by go_grown, g, rfl, hB⟩
  case' n12 =>
    go_simp
    refine hK _ ?_
    clear hK K
  apply relWalk_ex rfl ?o13 (fun K hK => ?n13)
  case o13 =>
    intro W hC hF
    obtain ⟨⟨g, rfl, hB⟩, -⟩ := hF
    have hx : W.cell? ⟨g, i, none⟩ = some (.string sF) := Hc1.out W g hB
    obtain ⟨q0, q1, q2, q3, q4, q5, q6, q7, q8, q9, q10, q11, q12⟩ := hC.cells
    go_simp
    all_goals exact ⟨Below.refl _ _, rfl⟩
  case' n13 =>
    go_simp
    refine hK _ ?_
    clear hK K
  apply relWalk_ex rfl ?o14 (fun K hK => ?n14)
  case o14 =>
    intro W hC hF
    obtain ⟨q0, q1, q2, q3, q4, q5, q6, q7, q8, q9, q10, q11, q12⟩ := hC.cells
    go_simp
    all_goals exact ⟨Below.refl _ _, rfl⟩
  case' n14 =>
    go_simp
    refine hK _ ?_
    clear hK K
  apply relWalk_rel rfl ?o15 (fun u15 K hK => ?n15)
  case o15 =>
    intro W hC hF
    obtain ⟨q0, q1, q2, q3, q4, q5, q6, q7, q8, q9, q10, q11, q12⟩ := hC.cells
    go_simp
    all_goals exact ⟨by go_grown, _, rfl, hC.2.1.lt, Blk.new _ _ _⟩
  case' n15 =>
    go_simp
    refine hK _ ?_
    clear hK K
  apply relWalk_end
  intro W hC hF hU
  obtain ⟨⟨g, rfl, hg, hB⟩, -⟩ := hF
  obtain ⟨hD, hZ, hb⟩ := hC
  refine wpList_store_mid rfl 31 (.tmp 3) (.tmp 18) rfl g 0 #[.int .i64 (off.tmod 604800), .int .i64 ((kd : Int) % 3), .int .i64 0, .string ⟨#[]⟩, .string sF, .bool false, .int .i64 0, .int .i64 0, .int .i64 0, .int .i64 0, .int .i64 0, .int .i64 0, .int .i64 0] rfl rfl (hB.there (Nat.le_refl _)) infoEra (by simp [Value.oneCell']) ?_
  have HB2 := Lib.hid (show Blk (W.setCells g 0 #[.int .i64 (off.tmod 604800), .int .i64 ((kd : Int) % 3), .int .i64 0, .string ⟨#[]⟩, .string sF, .bool false, .int .i64 0, .int .i64 0, .int .i64 0, .int .i64 0, .int .i64 0, .int .i64 0, .int .i64 0].toList) w.heap.size 43 #[.int .i32 off, .int .i32 sv, .int .i32 at_, .int .u8 (kd : Int), .int .u8 (st : Int), .int .u8 (fm : Int), .int .u8 (pt : Int), .int .u16 (yr : Int), .int .u8 (mo : Int), .int .u8 (bs : Int), .int .u8 (dk : Int), .int .u8 (dw : Int), .int .u8 (dd : Int)] ∧ Blk (W.setCells g 0 #[.int .i64 (off.tmod 604800), .int .i64 ((kd : Int) % 3), .int .i64 0, .string ⟨#[]⟩, .string sF, .bool false, .int .i64 0, .int .i64 0, .int .i64 0, .int .i64 0, .int .i64 0, .int .i64 0, .int .i64 0].toList) (w.heap.size + 1) 31 #[.int .i64 0, .int .i64 0, .int .i64 0, .string ⟨#[]⟩, .string ⟨#[]⟩, .bool false, .int .i64 0, .int .i64 0, .int .i64 0, .int .i64 0, .int .i64 0, .int .i64 0, .int .i64 0] ∧ Blk (W.setCells g 0 #[.int .i64 (off.tmod 604800), .int .i64 ((kd : Int) % 3), .int .i64 0, .string ⟨#[]⟩, .string sF, .bool false, .int .i64 0, .int .i64 0, .int .i64 0, .int .i64 0, .int .i64 0, .int .i64 0, .int .i64 0].toList) g 31 #[.int .i64 (off.tmod 604800), .int .i64 ((kd : Int) % 3), .int .i64 0, .string ⟨#[]⟩, .string sF, .bool false, .int .i64 0, .int .i64 0, .int .i64 0, .int .i64 0, .int .i64 0, .int .i64 0, .int .i64 0] ∧ Below w.heap.size w (W.setCells g 0 #[.int .i64 (off.tmod 604800), .int .i64 ((kd : Int) % 3), .int .i64 0, .string ⟨#[]⟩, .string sF, .bool false, .int .i64 0, .int .i64 0, .int .i64 0, .int .i64 0, .int .i64 0, .int .i64 0, .int .i64 0].toList) ∧ w.heap.size + 2 ≤ g from ⟨Blk.farSets hD (by omega) _ _, Blk.farSets hZ (by omega) _ _, hB.setAll #[.int .i64 (off.tmod 604800), .int .i64 ((kd : Int) % 3), .int .i64 0, .string ⟨#[]⟩, .string sF, .bool false, .int .i64 0, .int .i64 0, .int .i64 0, .int .i64 0, .int .i64 0, .int .i64 0, .int .i64 0] rfl, below_sets (by omega) _ _ _ hb, hg⟩)
  clear hU hD hZ hb hB hg HG htm hw1 hw3 Hc1 hiA hiB hiI
  generalize W.setCells g 0 #[.int .i64 (off.tmod 604800), .int .i64 ((kd : Int) % 3), .int .i64 0, .string ⟨#[]⟩, .string sF, .bool false, .int .i64 0, .int .i64 0, .int .i64 0, .int .i64 0, .int .i64 0, .int .i64 0, .int .i64 0].toList = w2 at *
  have k1 : w2.cell? ⟨g, 1, none⟩ = some (.int .i64 ((kd : Int) % 3)) := HB2.out.2.2.1.cell_ rfl
  have t4 : w2.cell? ⟨w.heap.size, 4, none⟩ = some (.int .u8 (st : Int)) := HB2.out.1.cell_ rfl
  have t6 : w2.cell? ⟨w.heap.size, 6, none⟩ = some (.int .u8 (pt : Int)) := HB2.out.1.cell_ rfl
  have q3 : w2.cell? ⟨g, 3, none⟩ = some (.string ⟨#[]⟩) := HB2.out.2.2.1.cell_ rfl
  have f3 := HB2.out.2.2.1.frozen 3
  have hlt := HB2.out.2.2.1.lt
  have hltD := HB2.out.1.lt
  have hx : (#[.string ⟨#[69, 105, 114, 101]⟩, .string ⟨#[82]⟩, .string ⟨#[67, 45, 69, 117, 114]⟩, .string ⟨#[97, 95, 49]⟩] : Array Value)[j]? = some (.string sS) := by
    have := Hc2.out _ _ (Blk.new' w2 9 #[.string ⟨#[69, 105, 114, 101]⟩, .string ⟨#[82]⟩, .string ⟨#[67, 45, 69, 117, 114]⟩, .string ⟨#[97, 95, 49]⟩] rfl)
    rwa [(Blk.new' w2 9 #[.string ⟨#[69, 105, 114, 101]⟩, .string ⟨#[82]⟩, .string ⟨#[67, 45, 69, 117, 114]⟩, .string ⟨#[97, 95, 49]⟩] rfl).cell] at this
  go_upto_region 7 with fail
  have HB3 := Lib.hid (show Blk ((w2.setCell ⟨g, 3, none⟩ (.string sS)).alloc (.cells #[.string ⟨#[69, 105, 114, 101]⟩, .string ⟨#[82]⟩, .string ⟨#[67, 45, 69, 117, 114]⟩, .string ⟨#[97, 95, 49]⟩] 9)) w.heap.size 43 #[.int .i32 off, .int .i32 sv, .int .i32 at_, .int .u8 (kd : Int), .int .u8 (st : Int), .int .u8 (fm : Int), .int .u8 (pt : Int), .int .u16 (yr : Int), .int .u8 (mo : Int), .int .u8 (bs : Int), .int .u8 (dk : Int), .int .u8 (dw : Int), .int .u8 (dd : Int)] ∧ Blk ((w2.setCell ⟨g, 3, none⟩ (.string sS)).alloc (.cells #[.string ⟨#[69, 105, 114, 101]⟩, .string ⟨#[82]⟩, .string ⟨#[67, 45, 69, 117, 114]⟩, .string ⟨#[97, 95, 49]⟩] 9)) (w.heap.size + 1) 31 #[.int .i64 0, .int .i64 0, .int .i64 0, .string ⟨#[]⟩, .string ⟨#[]⟩, .bool false, .int .i64 0, .int .i64 0, .int .i64 0, .int .i64 0, .int .i64 0, .int .i64 0, .int .i64 0] ∧ Blk ((w2.setCell ⟨g, 3, none⟩ (.string sS)).alloc (.cells #[.string ⟨#[69, 105, 114, 101]⟩, .string ⟨#[82]⟩, .string ⟨#[67, 45, 69, 117, 114]⟩, .string ⟨#[97, 95, 49]⟩] 9)) g 31 #[.int .i64 (off.tmod 604800), .int .i64 ((kd : Int) % 3), .int .i64 0, .string sS, .string sF, .bool false, .int .i64 0, .int .i64 0, .int .i64 0, .int .i64 0, .int .i64 0, .int .i64 0, .int .i64 0] ∧ Below w.heap.size w ((w2.setCell ⟨g, 3, none⟩ (.string sS)).alloc (.cells #[.string ⟨#[69, 105, 114, 101]⟩, .string ⟨#[82]⟩, .string ⟨#[67, 45, 69, 117, 114]⟩, .string ⟨#[97, 95, 49]⟩] 9)) ∧ w.heap.size + 2 ≤ g from ⟨(HB2.out.1.far (by have := HB2.out.2.2.2.2; simp; omega) _).alloc _, (HB2.out.2.1.far (by have := HB2.out.2.2.2.2; simp; omega) _).alloc _, (HB2.out.2.2.1.set_ 3 _).alloc _, rbelow_alloc (HB2.out.2.2.2.1.setCell (by have := HB2.out.2.2.2.2; simp; omega) _) _, HB2.out.2.2.2.2⟩)
  generalize ((w2.setCell ⟨g, 3, none⟩ (.string sS)).alloc (.cells #[.string ⟨#[69, 105, 114, 101]⟩, .string ⟨#[82]⟩, .string ⟨#[67, 45, 69, 117, 114]⟩, .string ⟨#[97, 95, 49]⟩] 9)) = w3 at *
  clear HB2 q3 f3 hlt t4 t6 k1 hltD hx
  have t6 : w3.cell? ⟨w.heap.size, 6, none⟩ = some (.int .u8 (pt : Int)) := HB3.out.1.cell_ rfl
  have t7 : w3.cell? ⟨w.heap.size, 7, none⟩ = some (.int .u16 (yr : Int)) := HB3.out.1.cell_ rfl
  go_wp2_with fail
  refine (until_any _ _ _ _ _ _).mono ?_
  rintro e w4 ⟨rfl, hb⟩
  have HB4 := Lib.hid (show Blk w4 w.heap.size 43 #[.int .i32 off, .int .i32 sv, .int .i32 at_, .int .u8 (kd : Int), .int .u8 (st : Int), .int .u8 (fm : Int), .int .u8 (pt : Int), .int .u16 (yr : Int), .int .u8 (mo : Int), .int .u8 (bs : Int), .int .u8 (dk : Int), .int .u8 (dw : Int), .int .u8 (dd : Int)] ∧ Blk w4 (w.heap.size + 1) 31 #[.int .i64 0, .int .i64 0, .int .i64 0, .string ⟨#[]⟩, .string ⟨#[]⟩, .bool false, .int .i64 0, .int .i64 0, .int .i64 0, .int .i64 0, .int .i64 0, .int .i64 0, .int .i64 0] ∧ Blk w4 g 31 #[.int .i64 (off.tmod 604800), .int .i64 ((kd : Int) % 3), .int .i64 0, .string sS, .string sF, .bool false, .int .i64 0, .int .i64 0, .int .i64 0, .int .i64 0, .int .i64 0, .int .i64 0, .int .i64 0] ∧ Below w.heap.size w w4 ∧ w.heap.size + 2 ≤ g from ⟨HB3.out.1.below hb HB3.out.1.lt, HB3.out.2.1.below hb HB3.out.2.1.lt, HB3.out.2.2.1.below hb HB3.out.2.2.1.lt, HB3.out.2.2.2.1.trans (hb.mono HB3.out.2.2.2.1.size), HB3.out.2.2.2.2⟩)
  clear hb HB3 t6 t7
  have q5 : w4.cell? ⟨g, 5, none⟩ = some (.bool false) := HB4.out.2.2.1.cell_ rfl
  have f5 := HB4.out.2.2.1.frozen 5
  have q6 : w4.cell? ⟨g, 6, none⟩ = some (.int .i64 0) := HB4.out.2.2.1.cell_ rfl
  have f6 := HB4.out.2.2.1.frozen 6
  have q7 : w4.cell? ⟨g, 7, none⟩ = some (.int .i64 0) := HB4.out.2.2.1.cell_ rfl
  have f7 := HB4.out.2.2.1.frozen 7
  have q8 : w4.cell? ⟨g, 8, none⟩ = some (.int .i64 0) := HB4.out.2.2.1.cell_ rfl
  have f8 := HB4.out.2.2.1.frozen 8
  have q9 : w4.cell? ⟨g, 9, none⟩ = some (.int .i64 0) := HB4.out.2.2.1.cell_ rfl
  have f9 := HB4.out.2.2.1.frozen 9
  have q10 : w4.cell? ⟨g, 10, none⟩ = some (.int .i64 0) := HB4.out.2.2.1.cell_ rfl
  have f10 := HB4.out.2.2.1.frozen 10
  have q11 : w4.cell? ⟨g, 11, none⟩ = some (.int .i64 0) := HB4.out.2.2.1.cell_ rfl
  have f11 := HB4.out.2.2.1.frozen 11
  have q12 : w4.cell? ⟨g, 12, none⟩ = some (.int .i64 0) := HB4.out.2.2.1.cell_ rfl
  have f12 := HB4.out.2.2.1.frozen 12
  have hlt := HB4.out.2.2.1.lt
  obtain ⟨w5, hw5⟩ : ∃ W, ((((((((w4.setCell ⟨g, 5, none⟩ (.bool true)).setCell ⟨g, 6, none⟩ (.int .i64 (1850 + (yr : Int) % 300))).setCell ⟨g, 7, none⟩ (.int .i64 1)).setCell ⟨g, 8, none⟩ (.int .i64 1)).setCell ⟨g, 9, none⟩ (.int .i64 0)).setCell ⟨g, 10, none⟩ (.int .i64 1)).setCell ⟨g, 11, none⟩ (.int .i64 0)).setCell ⟨g, 12, none⟩ (.int .i64 0)) = W := ⟨_, rfl⟩
  have HB5 := Lib.hid (show Blk w5 w.heap.size 43 #[.int .i32 off, .int .i32 sv, .int .i32 at_, .int .u8 (kd : Int), .int .u8 (st : Int), .int .u8 (fm : Int), .int .u8 (pt : Int), .int .u16 (yr : Int), .int .u8 (mo : Int), .int .u8 (bs : Int), .int .u8 (dk : Int), .int .u8 (dw : Int), .int .u8 (dd : Int)] ∧ Blk w5 (w.heap.size + 1) 31 #[.int .i64 0, .int .i64 0, .int .i64 0, .string ⟨#[]⟩, .string ⟨#[]⟩, .bool false, .int .i64 0, .int .i64 0, .int .i64 0, .int .i64 0, .int .i64 0, .int .i64 0, .int .i64 0] ∧ Blk w5 g 31 #[.int .i64 (off.tmod 604800), .int .i64 ((kd : Int) % 3), .int .i64 0, .string sS, .string sF, .bool true, .int .i64 (1850 + (yr : Int) % 300), .int .i64 1, .int .i64 1, .int .i64 0, .int .i64 1, .int .i64 0, .int .i64 0] ∧ Below w.heap.size w w5 ∧ w.heap.size + 2 ≤ g from by
    rw [← hw5]
    have hg := HB4.out.2.2.2.2
    exact ⟨Blk.farSets HB4.out.1 (by omega) [.bool true, .int .i64 (1850 + (yr : Int) % 300), .int .i64 1, .int .i64 1, .int .i64 0, .int .i64 1, .int .i64 0, .int .i64 0] 5, Blk.farSets HB4.out.2.1 (by omega) [.bool true, .int .i64 (1850 + (yr : Int) % 300), .int .i64 1, .int .i64 1, .int .i64 0, .int .i64 1, .int .i64 0, .int .i64 0] 5, Blk.setMid [.int .i64 (off.tmod 604800), .int .i64 ((kd : Int) % 3), .int .i64 0, .string sS, .string sF] [.bool false, .int .i64 0, .int .i64 0, .int .i64 0, .int .i64 0, .int .i64 0, .int .i64 0, .int .i64 0] [.bool true, .int .i64 (1850 + (yr : Int) % 300), .int .i64 1, .int .i64 1, .int .i64 0, .int .i64 1, .int .i64 0, .int .i64 0] [] HB4.out.2.2.1 rfl, below_sets (by omega) [.bool true, .int .i64 (1850 + (yr : Int) % 300), .int .i64 1, .int .i64 1, .int .i64 0, .int .i64 1, .int .i64 0, .int .i64 0] 5 _ HB4.out.2.2.2.1, hg⟩)
  go_upto_region 10 with fail
  try simp only [hw5]
  clear hw5 HB4 q5 f5 q6 f6 q7 f7 q8 f8 q9 f9 q10 f10 q11 f11 q12 f12 hlt
  have t6 : w5.cell? ⟨w.heap.size, 6, none⟩ = some (.int .u8 (pt : Int)) := HB5.out.1.cell_ rfl
  obtain ⟨C, hCC⟩ : ∃ C : Array Value, #[.int .i64 (off.tmod 604800), .int .i64 ((kd : Int) % 3), .int .i64 0, .string sS, .string sF, .bool true, .int .i64 (1850 + (yr : Int) % 300), .int .i64 1, .int .i64 1, .int .i64 0, .int .i64 1, .int .i64 0, .int .i64 0] = C := ⟨_, rfl⟩
  have Hi := Lib.hid (show (Tryz.prog.info? 31).map (·.size) = some C.size ∧ C.all (·.oneCell') = true ∧ C.size = 13 from hCC ▸ ⟨infoEra, by simp [Value.oneCell'], rfl⟩)
  rw [hCC] at HB5
  have HCC := Lib.hid hCC
  clear hCC
  go_wp2_with (first
    | (refine wpList_load_row rfl 31 (.tmp 3) rfl g rfl 31 C (0, 0) _ HB5.out.2.2.1 Tryz.underlying31 rfl Hi.out.1 ?_)
    | (refine wpList_store_mid rfl 31 (.tmp 2) (.tmp 81) rfl (w.heap.size + 1) 0 C rfl rfl (HB5.out.2.1.there (by rw [Hi.out.2.2]; decide)) Hi.out.1 Hi.out.2.1 ?_))
  exact bodyPost_ret (results_cell_row rfl _ _ (w.heap.size + 1) 31 C (0, 0) _ rfl (HB5.out.2.1.setAll C Hi.out.2.2) Tryz.underlying31 rfl Hi.out.1) rfl ⟨by rw [← HCC.out], below_sets (by omega) _ _ _ HB5.out.2.2.2.1⟩

set_option maxRecDepth 100000 in
set_option maxHeartbeats 2000000 in
theorem emade_2_2 (off sv at_ : Int) (kd st fm pt yr mo bs dk dw dd : Nat) (m1 m2 m3 : Int) (sF sS : ByteArray) (w : World) (h1 : -2147483648 ≤ off ∧ off ≤ 2147483647) (h2 : -2147483648 ≤ sv ∧ sv ≤ 2147483647) (b1 : kd < 256) (b2 : st < 256) (b3 : fm < 256) (b4 : pt < 256) (b5 : yr < 65536) (b6 : mo < 256)
    (hk : kd % 3 = 2) (hp : pt % 5 = 2) (hF : efmtM fm = sF.data.toList) (hS : esetM st = sS.data.toList)
    (H2 : Hid (∀ W, Calls Tryz.prog 35 #[.agg #[.int .u8 (dk : Int), .int .u8 (dw : Int), .int .u8 (dd : Int)]] W fun e w' => e = .returned (.agg #[.int .i64 m1, .int .i64 m2, .int .i64 m3]) ∧ Below W.heap.size W w'))
    (H6 : Hid (∀ W, Calls Tryz.prog 36 #[.int .i32 at_, .int .u8 (bs : Int)] W fun e w' => e = .returned (.agg #[.int .i64 (at_.tmod 604800), .int .i64 ((bs : Int) % 3)]) ∧ Below W.heap.size W w')) :
    Calls Tryz.prog 15 #[.agg #[.int .i32 off, .int .i32 sv, .int .i32 at_, .int .u8 (kd : Int), .int .u8 (st : Int), .int .u8 (fm : Int), .int .u8 (pt : Int), .int .u16 (yr : Int), .int .u8 (mo : Int), .int .u8 (bs : Int), .int .u8 (dk : Int), .int .u8 (dw : Int), .int .u8 (dd : Int)]] w fun e w' => e = .returned (.agg #[.int .i64 (off.tmod 604800), .int .i64 ((kd : Int) % 3), .int .i64 0, .string sS, .string sF, .bool true, .int .i64 (1850 + (yr : Int) % 300), .int .i64 (1 + (mo : Int) % 12), .int .i64 1, .int .i64 0, .int .i64 1, .int .i64 0, .int .i64 0]) ∧ Below w.heap.size w w' := by
  obtain ⟨h1a, h1b⟩ := h1
  obtain ⟨h2a, h2b⟩ := h2
  obtain ⟨i, hi⟩ : ∃ i, fm % 8 = i := ⟨_, rfl⟩
  obtain ⟨j, hj⟩ : ∃ j, st % 4 = j := ⟨_, rfl⟩
  have hi8 : i < 8 := by omega
  have hj4 : j < 4 := by omega
  have Hc1 := Lib.hid (show ∀ W g, Blk W g 9 #[.string ⟨#[71, 77, 84]⟩, .string ⟨#[65, 47, 66]⟩, .string ⟨#[37, 115]⟩, .string ⟨#[37, 122]⟩, .string ⟨#[43, 48, 53]⟩, .string ⟨#[43, 48, 53, 47, 43, 48, 54]⟩, .string ⟨#[67, 37, 115, 84]⟩, .string ⟨#[45, 48, 48]⟩] → W.cell? ⟨g, i, none⟩ = some (.string sF) from fun W g h => h.cell_ (by
    rw [show sF = ⟨(efmtM fm).toArray⟩ by rw [hF, ba_list], efmtM, hi]
    rcases (by omega : i = 0 ∨ i = 1 ∨ i = 2 ∨ i = 3 ∨ i = 4 ∨ i = 5 ∨ i = 6 ∨ i = 7) with h | h | h | h | h | h | h | h <;> subst h <;> rfl))
  have Hc2 := Lib.hid (show ∀ W g, Blk W g 9 #[.string ⟨#[69, 105, 114, 101]⟩, .string ⟨#[82]⟩, .string ⟨#[67, 45, 69, 117, 114]⟩, .string ⟨#[97, 95, 49]⟩] → W.cell? ⟨g, j, none⟩ = some (.string sS) from fun W g h => h.cell_ (by
    rw [show sS = ⟨(esetM st).toArray⟩ by rw [hS, ba_list], esetM, hj]
    rcases (by omega : j = 0 ∨ j = 1 ∨ j = 2 ∨ j = 3) with h | h | h | h <;> subst h <;> rfl))
  have htm : ∀ (a : Nat) (b : Int), (a : Int).tmod b = (a : Int) % b := fun a b => Int.tmod_eq_emod_of_nonneg (by omega)
  have hw1 : IntKind.i64.wrap off = off := IntWalk.i64_in _ (by omega)
  have hw2 : IntKind.i64.wrap sv = sv := IntWalk.i64_in _ (by omega)
  have hw3 : IntKind.i64.wrap ((kd : Int) % 3) = (kd : Int) % 3 := IntWalk.i64_in _ (by omega)
  have hiA : (0 : Int) ≤ (i : Int) := by omega
  have hiB : (i : Int) < 8 := by omega
  have hjA : (0 : Int) ≤ (j : Int) := by omega
  have hjB : (j : Int) < 4 := by omega
  have hiI : (fm : Int) % 8 = (i : Int) := by omega
  have hjI : (st : Int) % 4 = (j : Int) := by omega
  have e1 : ((kd : Int) % 3 == 1) = false := by rw [beq_eq_false_iff_ne]; omega
  have e2 : ((kd : Int) % 3 == 2) = true := by rw [beq_iff_eq]; omega
  have p0 : ((pt : Int) % 5 == 0) = false := by rw [beq_eq_false_iff_ne]; omega
  have g1 : decide (1 < (pt : Int) % 5) = true := decide_eq_true (by omega)
  have g2 : decide (2 < (pt : Int) % 5) = false := decide_eq_false (by omega)
  have g3 : decide (3 < (pt : Int) % 5) = false := decide_eq_false (by omega)
  clear hk hp hF hS hi hj hi8 hj4
  go_enter Tryz.func15, Tryz.ntmps15
  go_upto_region 1 with fail
  have HG : EHeld w off sv at_ kd st fm pt yr mo bs dk dw dd ((w.alloc (.cells #[.int .i32 off, .int .i32 sv, .int .i32 at_, .int .u8 (kd : Int), .int .u8 (st : Int), .int .u8 (fm : Int), .int .u8 (pt : Int), .int .u16 (yr : Int), .int .u8 (mo : Int), .int .u8 (bs : Int), .int .u8 (dk : Int), .int .u8 (dw : Int), .int .u8 (dd : Int)] 43)).alloc (.cells #[.int .i64 0, .int .i64 0, .int .i64 0, .string ⟨#[]⟩, .string ⟨#[]⟩, .bool false, .int .i64 0, .int .i64 0, .int .i64 0, .int .i64 0, .int .i64 0, .int .i64 0, .int .i64 0] 31)) := ⟨(Blk.new' _ _ _ rfl).alloc _, Blk.new' _ _ _ (by simp), by go_grown⟩
  refine wp_region_rels 16 [[], [], [], [], [], [], [], [], [], [], [], [], [8], [12], [], []] [Form.val, Form.val, Form.val, Form.val, Form.val, Form.val, Form.val, Form.val, Form.rel (TabIs 8 #[.string ⟨#[71, 77, 84]⟩, .string ⟨#[65, 47, 66]⟩, .string ⟨#[37, 115]⟩, .string ⟨#[37, 122]⟩, .string ⟨#[43, 48, 53]⟩, .string ⟨#[43, 48, 53, 47, 43, 48, 54]⟩, .string ⟨#[67, 37, 115, 84]⟩, .string ⟨#[45, 48, 48]⟩]), Form.val, Form.val, Form.val, Form.rel (PtrIs i #[.string ⟨#[71, 77, 84]⟩, .string ⟨#[65, 47, 66]⟩, .string ⟨#[37, 115]⟩, .string ⟨#[37, 122]⟩, .string ⟨#[43, 48, 53]⟩, .string ⟨#[43, 48, 53, 47, 43, 48, 54]⟩, .string ⟨#[67, 37, 115, 84]⟩, .string ⟨#[45, 48, 48]⟩]), Form.val, Form.val, Form.rel (NewEra (w.heap.size + 2))] (EHeld w off sv at_ kd st fm pt yr mo bs dk dw dd) (by kernel_rfl) (by kernel_rfl) rfl rfl (⟨HG.1, HG.2.1, HG.2.2.drew⟩) (fun W W' h hb => ⟨h.1.below hb h.1.lt, h.2.1.below hb h.2.1.lt, h.2.2.trans (hb.mono h.2.2.size)⟩) ⟨TabIs.lasts _ _, PtrIs.lasts _ _, NewEra.lasts _, trivial⟩ ?_
  repeat (first | apply exSpec_rel | apply exSpec_new | apply exSpec_val)
  apply relWalk_ex rfl ?o0 (fun K hK => ?n0)
  case o0 =>
    intro W hC hF
    obtain ⟨q0, q1, q2, q3, q4, q5, q6, q7, q8, q9, q10, q11, q12⟩ := hC.cells
    go_simp
    all_goals exact ⟨Below.refl _ _, rfl⟩
  case' n0 =>
    go_simp
    refine hK _ ?_
    clear hK K
  apply relWalk_ex rfl ?o1 (fun K hK => ?n1)
  case o1 =>
    intro W hC hF
    obtain ⟨q0, q1, q2, q3, q4, q5, q6, q7, q8, q9, q10, q11, q12⟩ := hC.cells
    go_simp
    all_goals exact ⟨Below.refl _ _, rfl⟩
  case' n1 =>
    go_simp
    refine hK _ ?_
    clear hK K
  apply relWalk_ex rfl ?o2 (fun K hK => ?n2)
  case o2 =>
    intro W hC hF
    obtain ⟨q0, q1, q2, q3, q4, q5, q6, q7, q8, q9, q10, q11, q12⟩ := hC.cells
    go_simp
    all_goals exact ⟨Below.refl _ _, rfl⟩
  case' n2 =>
    go_simp
    refine hK _ ?_
    clear hK K
  apply relWalk_ex rfl ?o3 (fun K hK => ?n3)
  case o3 =>
    intro W hC hF
    obtain ⟨q0, q1, q2, q3, q4, q5, q6, q7, q8, q9, q10, q11, q12⟩ := hC.cells
    go_simp
    all_goals exact ⟨Below.refl _ _, rfl⟩
  case' n3 =>
    go_simp
    refine hK _ ?_
    clear hK K
  apply relWalk_ex rfl ?o4 (fun K hK => ?n4)
  case o4 =>
    intro W hC hF
    obtain ⟨q0, q1, q2, q3, q4, q5, q6, q7, q8, q9, q10, q11, q12⟩ := hC.cells
    go_simp
    all_goals exact ⟨Below.refl _ _, rfl⟩
  case' n4 =>
    go_simp
    refine hK _ ?_
    clear hK K
  apply relWalk_ex rfl ?o5 (fun K hK => ?n5)
  case o5 =>
    intro W hC hF
    obtain ⟨q0, q1, q2, q3, q4, q5, q6, q7, q8, q9, q10, q11, q12⟩ := hC.cells
    go_simp
    all_goals exact ⟨Below.refl _ _, rfl⟩
  case' n5 =>
    go_simp
    refine hK _ ?_
    clear hK K
  apply relWalk_ex rfl ?o6 (fun K hK => ?n6)
  case o6 =>
    intro W hC hF
    obtain ⟨q0, q1, q2, q3, q4, q5, q6, q7, q8, q9, q10, q11, q12⟩ := hC.cells
    go_simp
    all_goals exact ⟨Below.refl _ _, rfl⟩
  case' n6 =>
    go_simp
    refine hK _ ?_
    clear hK K
  apply relWalk_ex rfl ?o7 (fun K hK => ?n7)
  case o7 =>
    intro W hC hF
    obtain ⟨q0, q1, q2, q3, q4, q5, q6, q7, q8, q9, q10, q11, q12⟩ := hC.cells
    go_simp
    all_goals exact ⟨Below.refl _ _, rfl⟩
  case' n7 =>
    go_simp
    refine hK _ ?_
    clear hK K
  apply relWalk_rel rfl ?o8 (fun u8 K hK => ?n8)
  case o8 =>
    intro W hC hF
    obtain ⟨q0, q1, q2, q3, q4, q5, q6, q7, q8, q9, q10, q11, q12⟩ := hC.cells
    go_simp
    all_goals exact ⟨by go_grown, _, rfl, Blk.new _ _ _⟩
  case' n8 =>
    go_simp
    refine hK _ ?_
    clear hK K
  apply relWalk_ex rfl ?o9 (fun K hK => ?n9)
  case o9 =>
    intro W hC hF
    obtain ⟨q0, q1, q2, q3, q4, q5, q6, q7, q8, q9, q10, q11, q12⟩ := hC.cells
    go_simp
    all_goals exact ⟨Below.refl _ _, rfl⟩
  case' n9 =>
    go_simp
    refine hK _ ?_
    clear hK K
  apply relWalk_ex rfl ?o10 (fun K hK => ?n10)
  case o10 =>
    intro W hC hF
    obtain ⟨q0, q1, q2, q3, q4, q5, q6, q7, q8, q9, q10, q11, q12⟩ := hC.cells
    go_simp
    all_goals exact ⟨Below.refl _ _, rfl⟩
  case' n10 =>
    go_simp
    refine hK _ ?_
    clear hK K
  apply relWalk_ex rfl ?o11 (fun K hK => ?n11)
  case o11 =>
    intro W hC hF
    obtain ⟨q0, q1, q2, q3, q4, q5, q6, q7, q8, q9, q10, q11, q12⟩ := hC.cells
    go_simp
    all_goals exact ⟨Below.refl _ _, rfl⟩
  case' n11 =>
    go_simp
    refine hK _ ?_
    clear hK K
  apply relWalk_rel rfl ?o12 (fun u12 K hK => ?n12)
  case o12 =>
    intro W hC hF
    obtain ⟨⟨g, rfl, hB⟩, -⟩ := hF
    obtain ⟨q0, q1, q2, q3, q4, q5, q6, q7, q8, q9, q10, q11, q12⟩ := hC.cells
    go_simp
    all_goals exact ⟨by go_grown, g, rfl, hB⟩
  case' n12 =>
    go_simp
    refine hK _ ?_
    clear hK K
  apply relWalk_ex rfl ?o13 (fun K hK => ?n13)
  case o13 =>
    intro W hC hF
    obtain ⟨⟨g, rfl, hB⟩, -⟩ := hF
    have hx : W.cell? ⟨g, i, none⟩ = some (.string sF) := Hc1.out W g hB
    obtain ⟨q0, q1, q2, q3, q4, q5, q6, q7, q8, q9, q10, q11, q12⟩ := hC.cells
    go_simp
    all_goals exact ⟨Below.refl _ _, rfl⟩
  case' n13 =>
    go_simp
    refine hK _ ?_
    clear hK K
  apply relWalk_ex rfl ?o14 (fun K hK => ?n14)
  case o14 =>
    intro W hC hF
    obtain ⟨q0, q1, q2, q3, q4, q5, q6, q7, q8, q9, q10, q11, q12⟩ := hC.cells
    go_simp
    all_goals exact ⟨Below.refl _ _, rfl⟩
  case' n14 =>
    go_simp
    refine hK _ ?_
    clear hK K
  apply relWalk_rel rfl ?o15 (fun u15 K hK => ?n15)
  case o15 =>
    intro W hC hF
    obtain ⟨q0, q1, q2, q3, q4, q5, q6, q7, q8, q9, q10, q11, q12⟩ := hC.cells
    go_simp
    all_goals exact ⟨by go_grown, _, rfl, hC.2.1.lt, Blk.new _ _ _⟩
  case' n15 =>
    go_simp
    refine hK _ ?_
    clear hK K
  apply relWalk_end
  intro W hC hF hU
  obtain ⟨⟨g, rfl, hg, hB⟩, -⟩ := hF
  obtain ⟨hD, hZ, hb⟩ := hC
  refine wpList_store_mid rfl 31 (.tmp 3) (.tmp 18) rfl g 0 #[.int .i64 (off.tmod 604800), .int .i64 ((kd : Int) % 3), .int .i64 0, .string ⟨#[]⟩, .string sF, .bool false, .int .i64 0, .int .i64 0, .int .i64 0, .int .i64 0, .int .i64 0, .int .i64 0, .int .i64 0] rfl rfl (hB.there (Nat.le_refl _)) infoEra (by simp [Value.oneCell']) ?_
  have HB2 := Lib.hid (show Blk (W.setCells g 0 #[.int .i64 (off.tmod 604800), .int .i64 ((kd : Int) % 3), .int .i64 0, .string ⟨#[]⟩, .string sF, .bool false, .int .i64 0, .int .i64 0, .int .i64 0, .int .i64 0, .int .i64 0, .int .i64 0, .int .i64 0].toList) w.heap.size 43 #[.int .i32 off, .int .i32 sv, .int .i32 at_, .int .u8 (kd : Int), .int .u8 (st : Int), .int .u8 (fm : Int), .int .u8 (pt : Int), .int .u16 (yr : Int), .int .u8 (mo : Int), .int .u8 (bs : Int), .int .u8 (dk : Int), .int .u8 (dw : Int), .int .u8 (dd : Int)] ∧ Blk (W.setCells g 0 #[.int .i64 (off.tmod 604800), .int .i64 ((kd : Int) % 3), .int .i64 0, .string ⟨#[]⟩, .string sF, .bool false, .int .i64 0, .int .i64 0, .int .i64 0, .int .i64 0, .int .i64 0, .int .i64 0, .int .i64 0].toList) (w.heap.size + 1) 31 #[.int .i64 0, .int .i64 0, .int .i64 0, .string ⟨#[]⟩, .string ⟨#[]⟩, .bool false, .int .i64 0, .int .i64 0, .int .i64 0, .int .i64 0, .int .i64 0, .int .i64 0, .int .i64 0] ∧ Blk (W.setCells g 0 #[.int .i64 (off.tmod 604800), .int .i64 ((kd : Int) % 3), .int .i64 0, .string ⟨#[]⟩, .string sF, .bool false, .int .i64 0, .int .i64 0, .int .i64 0, .int .i64 0, .int .i64 0, .int .i64 0, .int .i64 0].toList) g 31 #[.int .i64 (off.tmod 604800), .int .i64 ((kd : Int) % 3), .int .i64 0, .string ⟨#[]⟩, .string sF, .bool false, .int .i64 0, .int .i64 0, .int .i64 0, .int .i64 0, .int .i64 0, .int .i64 0, .int .i64 0] ∧ Below w.heap.size w (W.setCells g 0 #[.int .i64 (off.tmod 604800), .int .i64 ((kd : Int) % 3), .int .i64 0, .string ⟨#[]⟩, .string sF, .bool false, .int .i64 0, .int .i64 0, .int .i64 0, .int .i64 0, .int .i64 0, .int .i64 0, .int .i64 0].toList) ∧ w.heap.size + 2 ≤ g from ⟨Blk.farSets hD (by omega) _ _, Blk.farSets hZ (by omega) _ _, hB.setAll #[.int .i64 (off.tmod 604800), .int .i64 ((kd : Int) % 3), .int .i64 0, .string ⟨#[]⟩, .string sF, .bool false, .int .i64 0, .int .i64 0, .int .i64 0, .int .i64 0, .int .i64 0, .int .i64 0, .int .i64 0] rfl, below_sets (by omega) _ _ _ hb, hg⟩)
  clear hU hD hZ hb hB hg HG htm hw1 hw3 Hc1 hiA hiB hiI
  generalize W.setCells g 0 #[.int .i64 (off.tmod 604800), .int .i64 ((kd : Int) % 3), .int .i64 0, .string ⟨#[]⟩, .string sF, .bool false, .int .i64 0, .int .i64 0, .int .i64 0, .int .i64 0, .int .i64 0, .int .i64 0, .int .i64 0].toList = w2 at *
  have k1 : w2.cell? ⟨g, 1, none⟩ = some (.int .i64 ((kd : Int) % 3)) := HB2.out.2.2.1.cell_ rfl
  have t4 : w2.cell? ⟨w.heap.size, 4, none⟩ = some (.int .u8 (st : Int)) := HB2.out.1.cell_ rfl
  have t6 : w2.cell? ⟨w.heap.size, 6, none⟩ = some (.int .u8 (pt : Int)) := HB2.out.1.cell_ rfl
  have q3 : w2.cell? ⟨g, 3, none⟩ = some (.string ⟨#[]⟩) := HB2.out.2.2.1.cell_ rfl
  have f3 := HB2.out.2.2.1.frozen 3
  have hlt := HB2.out.2.2.1.lt
  have hltD := HB2.out.1.lt
  have hx : (#[.string ⟨#[69, 105, 114, 101]⟩, .string ⟨#[82]⟩, .string ⟨#[67, 45, 69, 117, 114]⟩, .string ⟨#[97, 95, 49]⟩] : Array Value)[j]? = some (.string sS) := by
    have := Hc2.out _ _ (Blk.new' w2 9 #[.string ⟨#[69, 105, 114, 101]⟩, .string ⟨#[82]⟩, .string ⟨#[67, 45, 69, 117, 114]⟩, .string ⟨#[97, 95, 49]⟩] rfl)
    rwa [(Blk.new' w2 9 #[.string ⟨#[69, 105, 114, 101]⟩, .string ⟨#[82]⟩, .string ⟨#[67, 45, 69, 117, 114]⟩, .string ⟨#[97, 95, 49]⟩] rfl).cell] at this
  go_upto_region 7 with fail
  have HB3 := Lib.hid (show Blk ((w2.setCell ⟨g, 3, none⟩ (.string sS)).alloc (.cells #[.string ⟨#[69, 105, 114, 101]⟩, .string ⟨#[82]⟩, .string ⟨#[67, 45, 69, 117, 114]⟩, .string ⟨#[97, 95, 49]⟩] 9)) w.heap.size 43 #[.int .i32 off, .int .i32 sv, .int .i32 at_, .int .u8 (kd : Int), .int .u8 (st : Int), .int .u8 (fm : Int), .int .u8 (pt : Int), .int .u16 (yr : Int), .int .u8 (mo : Int), .int .u8 (bs : Int), .int .u8 (dk : Int), .int .u8 (dw : Int), .int .u8 (dd : Int)] ∧ Blk ((w2.setCell ⟨g, 3, none⟩ (.string sS)).alloc (.cells #[.string ⟨#[69, 105, 114, 101]⟩, .string ⟨#[82]⟩, .string ⟨#[67, 45, 69, 117, 114]⟩, .string ⟨#[97, 95, 49]⟩] 9)) (w.heap.size + 1) 31 #[.int .i64 0, .int .i64 0, .int .i64 0, .string ⟨#[]⟩, .string ⟨#[]⟩, .bool false, .int .i64 0, .int .i64 0, .int .i64 0, .int .i64 0, .int .i64 0, .int .i64 0, .int .i64 0] ∧ Blk ((w2.setCell ⟨g, 3, none⟩ (.string sS)).alloc (.cells #[.string ⟨#[69, 105, 114, 101]⟩, .string ⟨#[82]⟩, .string ⟨#[67, 45, 69, 117, 114]⟩, .string ⟨#[97, 95, 49]⟩] 9)) g 31 #[.int .i64 (off.tmod 604800), .int .i64 ((kd : Int) % 3), .int .i64 0, .string sS, .string sF, .bool false, .int .i64 0, .int .i64 0, .int .i64 0, .int .i64 0, .int .i64 0, .int .i64 0, .int .i64 0] ∧ Below w.heap.size w ((w2.setCell ⟨g, 3, none⟩ (.string sS)).alloc (.cells #[.string ⟨#[69, 105, 114, 101]⟩, .string ⟨#[82]⟩, .string ⟨#[67, 45, 69, 117, 114]⟩, .string ⟨#[97, 95, 49]⟩] 9)) ∧ w.heap.size + 2 ≤ g from ⟨(HB2.out.1.far (by have := HB2.out.2.2.2.2; simp; omega) _).alloc _, (HB2.out.2.1.far (by have := HB2.out.2.2.2.2; simp; omega) _).alloc _, (HB2.out.2.2.1.set_ 3 _).alloc _, rbelow_alloc (HB2.out.2.2.2.1.setCell (by have := HB2.out.2.2.2.2; simp; omega) _) _, HB2.out.2.2.2.2⟩)
  generalize ((w2.setCell ⟨g, 3, none⟩ (.string sS)).alloc (.cells #[.string ⟨#[69, 105, 114, 101]⟩, .string ⟨#[82]⟩, .string ⟨#[67, 45, 69, 117, 114]⟩, .string ⟨#[97, 95, 49]⟩] 9)) = w3 at *
  clear HB2 q3 f3 hlt t4 t6 k1 hltD hx
  have t6 : w3.cell? ⟨w.heap.size, 6, none⟩ = some (.int .u8 (pt : Int)) := HB3.out.1.cell_ rfl
  have t7 : w3.cell? ⟨w.heap.size, 7, none⟩ = some (.int .u16 (yr : Int)) := HB3.out.1.cell_ rfl
  go_wp2_with fail
  refine (until_any _ _ _ _ _ _).mono ?_
  rintro e w4 ⟨rfl, hb⟩
  have HB4 := Lib.hid (show Blk w4 w.heap.size 43 #[.int .i32 off, .int .i32 sv, .int .i32 at_, .int .u8 (kd : Int), .int .u8 (st : Int), .int .u8 (fm : Int), .int .u8 (pt : Int), .int .u16 (yr : Int), .int .u8 (mo : Int), .int .u8 (bs : Int), .int .u8 (dk : Int), .int .u8 (dw : Int), .int .u8 (dd : Int)] ∧ Blk w4 (w.heap.size + 1) 31 #[.int .i64 0, .int .i64 0, .int .i64 0, .string ⟨#[]⟩, .string ⟨#[]⟩, .bool false, .int .i64 0, .int .i64 0, .int .i64 0, .int .i64 0, .int .i64 0, .int .i64 0, .int .i64 0] ∧ Blk w4 g 31 #[.int .i64 (off.tmod 604800), .int .i64 ((kd : Int) % 3), .int .i64 0, .string sS, .string sF, .bool false, .int .i64 0, .int .i64 0, .int .i64 0, .int .i64 0, .int .i64 0, .int .i64 0, .int .i64 0] ∧ Below w.heap.size w w4 ∧ w.heap.size + 2 ≤ g from ⟨HB3.out.1.below hb HB3.out.1.lt, HB3.out.2.1.below hb HB3.out.2.1.lt, HB3.out.2.2.1.below hb HB3.out.2.2.1.lt, HB3.out.2.2.2.1.trans (hb.mono HB3.out.2.2.2.1.size), HB3.out.2.2.2.2⟩)
  clear hb HB3 t6 t7
  have q5 : w4.cell? ⟨g, 5, none⟩ = some (.bool false) := HB4.out.2.2.1.cell_ rfl
  have f5 := HB4.out.2.2.1.frozen 5
  have q6 : w4.cell? ⟨g, 6, none⟩ = some (.int .i64 0) := HB4.out.2.2.1.cell_ rfl
  have f6 := HB4.out.2.2.1.frozen 6
  have q7 : w4.cell? ⟨g, 7, none⟩ = some (.int .i64 0) := HB4.out.2.2.1.cell_ rfl
  have f7 := HB4.out.2.2.1.frozen 7
  have q8 : w4.cell? ⟨g, 8, none⟩ = some (.int .i64 0) := HB4.out.2.2.1.cell_ rfl
  have f8 := HB4.out.2.2.1.frozen 8
  have q9 : w4.cell? ⟨g, 9, none⟩ = some (.int .i64 0) := HB4.out.2.2.1.cell_ rfl
  have f9 := HB4.out.2.2.1.frozen 9
  have q10 : w4.cell? ⟨g, 10, none⟩ = some (.int .i64 0) := HB4.out.2.2.1.cell_ rfl
  have f10 := HB4.out.2.2.1.frozen 10
  have q11 : w4.cell? ⟨g, 11, none⟩ = some (.int .i64 0) := HB4.out.2.2.1.cell_ rfl
  have f11 := HB4.out.2.2.1.frozen 11
  have q12 : w4.cell? ⟨g, 12, none⟩ = some (.int .i64 0) := HB4.out.2.2.1.cell_ rfl
  have f12 := HB4.out.2.2.1.frozen 12
  have hlt := HB4.out.2.2.1.lt
  obtain ⟨w5, hw5⟩ : ∃ W, ((((((((w4.setCell ⟨g, 5, none⟩ (.bool true)).setCell ⟨g, 6, none⟩ (.int .i64 (1850 + (yr : Int) % 300))).setCell ⟨g, 7, none⟩ (.int .i64 1)).setCell ⟨g, 8, none⟩ (.int .i64 1)).setCell ⟨g, 9, none⟩ (.int .i64 0)).setCell ⟨g, 10, none⟩ (.int .i64 1)).setCell ⟨g, 11, none⟩ (.int .i64 0)).setCell ⟨g, 12, none⟩ (.int .i64 0)) = W := ⟨_, rfl⟩
  have HB5 := Lib.hid (show Blk w5 w.heap.size 43 #[.int .i32 off, .int .i32 sv, .int .i32 at_, .int .u8 (kd : Int), .int .u8 (st : Int), .int .u8 (fm : Int), .int .u8 (pt : Int), .int .u16 (yr : Int), .int .u8 (mo : Int), .int .u8 (bs : Int), .int .u8 (dk : Int), .int .u8 (dw : Int), .int .u8 (dd : Int)] ∧ Blk w5 (w.heap.size + 1) 31 #[.int .i64 0, .int .i64 0, .int .i64 0, .string ⟨#[]⟩, .string ⟨#[]⟩, .bool false, .int .i64 0, .int .i64 0, .int .i64 0, .int .i64 0, .int .i64 0, .int .i64 0, .int .i64 0] ∧ Blk w5 g 31 #[.int .i64 (off.tmod 604800), .int .i64 ((kd : Int) % 3), .int .i64 0, .string sS, .string sF, .bool true, .int .i64 (1850 + (yr : Int) % 300), .int .i64 1, .int .i64 1, .int .i64 0, .int .i64 1, .int .i64 0, .int .i64 0] ∧ Below w.heap.size w w5 ∧ w.heap.size + 2 ≤ g from by
    rw [← hw5]
    have hg := HB4.out.2.2.2.2
    exact ⟨Blk.farSets HB4.out.1 (by omega) [.bool true, .int .i64 (1850 + (yr : Int) % 300), .int .i64 1, .int .i64 1, .int .i64 0, .int .i64 1, .int .i64 0, .int .i64 0] 5, Blk.farSets HB4.out.2.1 (by omega) [.bool true, .int .i64 (1850 + (yr : Int) % 300), .int .i64 1, .int .i64 1, .int .i64 0, .int .i64 1, .int .i64 0, .int .i64 0] 5, Blk.setMid [.int .i64 (off.tmod 604800), .int .i64 ((kd : Int) % 3), .int .i64 0, .string sS, .string sF] [.bool false, .int .i64 0, .int .i64 0, .int .i64 0, .int .i64 0, .int .i64 0, .int .i64 0, .int .i64 0] [.bool true, .int .i64 (1850 + (yr : Int) % 300), .int .i64 1, .int .i64 1, .int .i64 0, .int .i64 1, .int .i64 0, .int .i64 0] [] HB4.out.2.2.1 rfl, below_sets (by omega) [.bool true, .int .i64 (1850 + (yr : Int) % 300), .int .i64 1, .int .i64 1, .int .i64 0, .int .i64 1, .int .i64 0, .int .i64 0] 5 _ HB4.out.2.2.2.1, hg⟩)
  go_upto_region 10 with fail
  try simp only [hw5]
  clear hw5 HB4 q5 f5 q6 f6 q7 f7 q8 f8 q9 f9 q10 f10 q11 f11 q12 f12 hlt
  have t6 : w5.cell? ⟨w.heap.size, 6, none⟩ = some (.int .u8 (pt : Int)) := HB5.out.1.cell_ rfl
  have t8 : w5.cell? ⟨w.heap.size, 8, none⟩ = some (.int .u8 (mo : Int)) := HB5.out.1.cell_ rfl
  have q7 : w5.cell? ⟨g, 7, none⟩ = some (.int .i64 1) := HB5.out.2.2.1.cell_ rfl
  have f7 := HB5.out.2.2.1.frozen 7
  have hlt := HB5.out.2.2.1.lt
  obtain ⟨w6, hw6⟩ : ∃ W, (w5.setCell ⟨g, 7, none⟩ (.int .i64 (1 + (mo : Int) % 12))) = W := ⟨_, rfl⟩
  have HB6 := Lib.hid (show Blk w6 w.heap.size 43 #[.int .i32 off, .int .i32 sv, .int .i32 at_, .int .u8 (kd : Int), .int .u8 (st : Int), .int .u8 (fm : Int), .int .u8 (pt : Int), .int .u16 (yr : Int), .int .u8 (mo : Int), .int .u8 (bs : Int), .int .u8 (dk : Int), .int .u8 (dw : Int), .int .u8 (dd : Int)] ∧ Blk w6 (w.heap.size + 1) 31 #[.int .i64 0, .int .i64 0, .int .i64 0, .string ⟨#[]⟩, .string ⟨#[]⟩, .bool false, .int .i64 0, .int .i64 0, .int .i64 0, .int .i64 0, .int .i64 0, .int .i64 0, .int .i64 0] ∧ Blk w6 g 31 #[.int .i64 (off.tmod 604800), .int .i64 ((kd : Int) % 3), .int .i64 0, .string sS, .string sF, .bool true, .int .i64 (1850 + (yr : Int) % 300), .int .i64 (1 + (mo : Int) % 12), .int .i64 1, .int .i64 0, .int .i64 1, .int .i64 0, .int .i64 0] ∧ Below w.heap.size w w6 ∧ w.heap.size + 2 ≤ g from by
    rw [← hw6]
    have hg := HB5.out.2.2.2.2
    exact ⟨Blk.farSets HB5.out.1 (by omega) [.int .i64 (1 + (mo : Int) % 12)] 7, Blk.farSets HB5.out.2.1 (by omega) [.int .i64 (1 + (mo : Int) % 12)] 7, Blk.setMid [.int .i64 (off.tmod 604800), .int .i64 ((kd : Int) % 3), .int .i64 0, .string sS, .string sF, .bool true, .int .i64 (1850 + (yr : Int) % 300)] [.int .i64 1] [.int .i64 (1 + (mo : Int) % 12)] [.int .i64 1, .int .i64 0, .int .i64 1, .int .i64 0, .int .i64 0] HB5.out.2.2.1 rfl, below_sets (by omega) [.int .i64 (1 + (mo : Int) % 12)] 7 _ HB5.out.2.2.2.1, hg⟩)
  go_upto_region 12 with fail
  try simp only [hw6]
  clear hw6 HB5 q7 f7 hlt t6 t8
  have t6 : w6.cell? ⟨w.heap.size, 6, none⟩ = some (.int .u8 (pt : Int)) := HB6.out.1.cell_ rfl
  obtain ⟨C, hCC⟩ : ∃ C : Array Value, #[.int .i64 (off.tmod 604800), .int .i64 ((kd : Int) % 3), .int .i64 0, .string sS, .string sF, .bool true, .int .i64 (1850 + (yr : Int) % 300), .int .i64 (1 + (mo : Int) % 12), .int .i64 1, .int .i64 0, .int .i64 1, .int .i64 0, .int .i64 0] = C := ⟨_, rfl⟩
  have Hi := Lib.hid (show (Tryz.prog.info? 31).map (·.size) = some C.size ∧ C.all (·.oneCell') = true ∧ C.size = 13 from hCC ▸ ⟨infoEra, by simp [Value.oneCell'], rfl⟩)
  rw [hCC] at HB6
  have HCC := Lib.hid hCC
  clear hCC
  go_wp2_with (first
    | (refine wpList_load_row rfl 31 (.tmp 3) rfl g rfl 31 C (0, 0) _ HB6.out.2.2.1 Tryz.underlying31 rfl Hi.out.1 ?_)
    | (refine wpList_store_mid rfl 31 (.tmp 2) (.tmp 81) rfl (w.heap.size + 1) 0 C rfl rfl (HB6.out.2.1.there (by rw [Hi.out.2.2]; decide)) Hi.out.1 Hi.out.2.1 ?_))
  exact bodyPost_ret (results_cell_row rfl _ _ (w.heap.size + 1) 31 C (0, 0) _ rfl (HB6.out.2.1.setAll C Hi.out.2.2) Tryz.underlying31 rfl Hi.out.1) rfl ⟨by rw [← HCC.out], below_sets (by omega) _ _ _ HB6.out.2.2.2.1⟩

set_option maxRecDepth 100000 in
set_option maxHeartbeats 2000000 in
theorem emade_2_3 (off sv at_ : Int) (kd st fm pt yr mo bs dk dw dd : Nat) (m1 m2 m3 : Int) (sF sS : ByteArray) (w : World) (h1 : -2147483648 ≤ off ∧ off ≤ 2147483647) (h2 : -2147483648 ≤ sv ∧ sv ≤ 2147483647) (b1 : kd < 256) (b2 : st < 256) (b3 : fm < 256) (b4 : pt < 256) (b5 : yr < 65536) (b6 : mo < 256)
    (hk : kd % 3 = 2) (hp : pt % 5 = 3) (hF : efmtM fm = sF.data.toList) (hS : esetM st = sS.data.toList)
    (H2 : Hid (∀ W, Calls Tryz.prog 35 #[.agg #[.int .u8 (dk : Int), .int .u8 (dw : Int), .int .u8 (dd : Int)]] W fun e w' => e = .returned (.agg #[.int .i64 m1, .int .i64 m2, .int .i64 m3]) ∧ Below W.heap.size W w'))
    (H6 : Hid (∀ W, Calls Tryz.prog 36 #[.int .i32 at_, .int .u8 (bs : Int)] W fun e w' => e = .returned (.agg #[.int .i64 (at_.tmod 604800), .int .i64 ((bs : Int) % 3)]) ∧ Below W.heap.size W w')) :
    Calls Tryz.prog 15 #[.agg #[.int .i32 off, .int .i32 sv, .int .i32 at_, .int .u8 (kd : Int), .int .u8 (st : Int), .int .u8 (fm : Int), .int .u8 (pt : Int), .int .u16 (yr : Int), .int .u8 (mo : Int), .int .u8 (bs : Int), .int .u8 (dk : Int), .int .u8 (dw : Int), .int .u8 (dd : Int)]] w fun e w' => e = .returned (.agg #[.int .i64 (off.tmod 604800), .int .i64 ((kd : Int) % 3), .int .i64 0, .string sS, .string sF, .bool true, .int .i64 (1850 + (yr : Int) % 300), .int .i64 (1 + (mo : Int) % 12), .int .i64 m1, .int .i64 m2, .int .i64 m3, .int .i64 0, .int .i64 0]) ∧ Below w.heap.size w w' := by
  obtain ⟨h1a, h1b⟩ := h1
  obtain ⟨h2a, h2b⟩ := h2
  obtain ⟨i, hi⟩ : ∃ i, fm % 8 = i := ⟨_, rfl⟩
  obtain ⟨j, hj⟩ : ∃ j, st % 4 = j := ⟨_, rfl⟩
  have hi8 : i < 8 := by omega
  have hj4 : j < 4 := by omega
  have Hc1 := Lib.hid (show ∀ W g, Blk W g 9 #[.string ⟨#[71, 77, 84]⟩, .string ⟨#[65, 47, 66]⟩, .string ⟨#[37, 115]⟩, .string ⟨#[37, 122]⟩, .string ⟨#[43, 48, 53]⟩, .string ⟨#[43, 48, 53, 47, 43, 48, 54]⟩, .string ⟨#[67, 37, 115, 84]⟩, .string ⟨#[45, 48, 48]⟩] → W.cell? ⟨g, i, none⟩ = some (.string sF) from fun W g h => h.cell_ (by
    rw [show sF = ⟨(efmtM fm).toArray⟩ by rw [hF, ba_list], efmtM, hi]
    rcases (by omega : i = 0 ∨ i = 1 ∨ i = 2 ∨ i = 3 ∨ i = 4 ∨ i = 5 ∨ i = 6 ∨ i = 7) with h | h | h | h | h | h | h | h <;> subst h <;> rfl))
  have Hc2 := Lib.hid (show ∀ W g, Blk W g 9 #[.string ⟨#[69, 105, 114, 101]⟩, .string ⟨#[82]⟩, .string ⟨#[67, 45, 69, 117, 114]⟩, .string ⟨#[97, 95, 49]⟩] → W.cell? ⟨g, j, none⟩ = some (.string sS) from fun W g h => h.cell_ (by
    rw [show sS = ⟨(esetM st).toArray⟩ by rw [hS, ba_list], esetM, hj]
    rcases (by omega : j = 0 ∨ j = 1 ∨ j = 2 ∨ j = 3) with h | h | h | h <;> subst h <;> rfl))
  have htm : ∀ (a : Nat) (b : Int), (a : Int).tmod b = (a : Int) % b := fun a b => Int.tmod_eq_emod_of_nonneg (by omega)
  have hw1 : IntKind.i64.wrap off = off := IntWalk.i64_in _ (by omega)
  have hw2 : IntKind.i64.wrap sv = sv := IntWalk.i64_in _ (by omega)
  have hw3 : IntKind.i64.wrap ((kd : Int) % 3) = (kd : Int) % 3 := IntWalk.i64_in _ (by omega)
  have hiA : (0 : Int) ≤ (i : Int) := by omega
  have hiB : (i : Int) < 8 := by omega
  have hjA : (0 : Int) ≤ (j : Int) := by omega
  have hjB : (j : Int) < 4 := by omega
  have hiI : (fm : Int) % 8 = (i : Int) := by omega
  have hjI : (st : Int) % 4 = (j : Int) := by omega
  have e1 : ((kd : Int) % 3 == 1) = false := by rw [beq_eq_false_iff_ne]; omega
  have e2 : ((kd : Int) % 3 == 2) = true := by rw [beq_iff_eq]; omega
  have p0 : ((pt : Int) % 5 == 0) = false := by rw [beq_eq_false_iff_ne]; omega
  have g1 : decide (1 < (pt : Int) % 5) = true := decide_eq_true (by omega)
  have g2 : decide (2 < (pt : Int) % 5) = true := decide_eq_true (by omega)
  have g3 : decide (3 < (pt : Int) % 5) = false := decide_eq_false (by omega)
  clear hk hp hF hS hi hj hi8 hj4
  go_enter Tryz.func15, Tryz.ntmps15
  go_upto_region 1 with fail
  have HG : EHeld w off sv at_ kd st fm pt yr mo bs dk dw dd ((w.alloc (.cells #[.int .i32 off, .int .i32 sv, .int .i32 at_, .int .u8 (kd : Int), .int .u8 (st : Int), .int .u8 (fm : Int), .int .u8 (pt : Int), .int .u16 (yr : Int), .int .u8 (mo : Int), .int .u8 (bs : Int), .int .u8 (dk : Int), .int .u8 (dw : Int), .int .u8 (dd : Int)] 43)).alloc (.cells #[.int .i64 0, .int .i64 0, .int .i64 0, .string ⟨#[]⟩, .string ⟨#[]⟩, .bool false, .int .i64 0, .int .i64 0, .int .i64 0, .int .i64 0, .int .i64 0, .int .i64 0, .int .i64 0] 31)) := ⟨(Blk.new' _ _ _ rfl).alloc _, Blk.new' _ _ _ (by simp), by go_grown⟩
  refine wp_region_rels 16 [[], [], [], [], [], [], [], [], [], [], [], [], [8], [12], [], []] [Form.val, Form.val, Form.val, Form.val, Form.val, Form.val, Form.val, Form.val, Form.rel (TabIs 8 #[.string ⟨#[71, 77, 84]⟩, .string ⟨#[65, 47, 66]⟩, .string ⟨#[37, 115]⟩, .string ⟨#[37, 122]⟩, .string ⟨#[43, 48, 53]⟩, .string ⟨#[43, 48, 53, 47, 43, 48, 54]⟩, .string ⟨#[67, 37, 115, 84]⟩, .string ⟨#[45, 48, 48]⟩]), Form.val, Form.val, Form.val, Form.rel (PtrIs i #[.string ⟨#[71, 77, 84]⟩, .string ⟨#[65, 47, 66]⟩, .string ⟨#[37, 115]⟩, .string ⟨#[37, 122]⟩, .string ⟨#[43, 48, 53]⟩, .string ⟨#[43, 48, 53, 47, 43, 48, 54]⟩, .string ⟨#[67, 37, 115, 84]⟩, .string ⟨#[45, 48, 48]⟩]), Form.val, Form.val, Form.rel (NewEra (w.heap.size + 2))] (EHeld w off sv at_ kd st fm pt yr mo bs dk dw dd) (by kernel_rfl) (by kernel_rfl) rfl rfl (⟨HG.1, HG.2.1, HG.2.2.drew⟩) (fun W W' h hb => ⟨h.1.below hb h.1.lt, h.2.1.below hb h.2.1.lt, h.2.2.trans (hb.mono h.2.2.size)⟩) ⟨TabIs.lasts _ _, PtrIs.lasts _ _, NewEra.lasts _, trivial⟩ ?_
  repeat (first | apply exSpec_rel | apply exSpec_new | apply exSpec_val)
  apply relWalk_ex rfl ?o0 (fun K hK => ?n0)
  case o0 =>
    intro W hC hF
    obtain ⟨q0, q1, q2, q3, q4, q5, q6, q7, q8, q9, q10, q11, q12⟩ := hC.cells
    go_simp
    all_goals exact ⟨Below.refl _ _, rfl⟩
  case' n0 =>
    go_simp
    refine hK _ ?_
    clear hK K
  apply relWalk_ex rfl ?o1 (fun K hK => ?n1)
  case o1 =>
    intro W hC hF
    obtain ⟨q0, q1, q2, q3, q4, q5, q6, q7, q8, q9, q10, q11, q12⟩ := hC.cells
    go_simp
    all_goals exact ⟨Below.refl _ _, rfl⟩
  case' n1 =>
    go_simp
    refine hK _ ?_
    clear hK K
  apply relWalk_ex rfl ?o2 (fun K hK => ?n2)
  case o2 =>
    intro W hC hF
    obtain ⟨q0, q1, q2, q3, q4, q5, q6, q7, q8, q9, q10, q11, q12⟩ := hC.cells
    go_simp
    all_goals exact ⟨Below.refl _ _, rfl⟩
  case' n2 =>
    go_simp
    refine hK _ ?_
    clear hK K
  apply relWalk_ex rfl ?o3 (fun K hK => ?n3)
  case o3 =>
    intro W hC hF
    obtain ⟨q0, q1, q2, q3, q4, q5, q6, q7, q8, q9, q10, q11, q12⟩ := hC.cells
    go_simp
    all_goals exact ⟨Below.refl _ _, rfl⟩
  case' n3 =>
    go_simp
    refine hK _ ?_
    clear hK K
  apply relWalk_ex rfl ?o4 (fun K hK => ?n4)
  case o4 =>
    intro W hC hF
    obtain ⟨q0, q1, q2, q3, q4, q5, q6, q7, q8, q9, q10, q11, q12⟩ := hC.cells
    go_simp
    all_goals exact ⟨Below.refl _ _, rfl⟩
  case' n4 =>
    go_simp
    refine hK _ ?_
    clear hK K
  apply relWalk_ex rfl ?o5 (fun K hK => ?n5)
  case o5 =>
    intro W hC hF
    obtain ⟨q0, q1, q2, q3, q4, q5, q6, q7, q8, q9, q10, q11, q12⟩ := hC.cells
    go_simp
    all_goals exact ⟨Below.refl _ _, rfl⟩
  case' n5 =>
    go_simp
    refine hK _ ?_
    clear hK K
  apply relWalk_ex rfl ?o6 (fun K hK => ?n6)
  case o6 =>
    intro W hC hF
    obtain ⟨q0, q1, q2, q3, q4, q5, q6, q7, q8, q9, q10, q11, q12⟩ := hC.cells
    go_simp
    all_goals exact ⟨Below.refl _ _, rfl⟩
  case' n6 =>
    go_simp
    refine hK _ ?_
    clear hK K
  apply relWalk_ex rfl ?o7 (fun K hK => ?n7)
  case o7 =>
    intro W hC hF
    obtain ⟨q0, q1, q2, q3, q4, q5, q6, q7, q8, q9, q10, q11, q12⟩ := hC.cells
    go_simp
    all_goals exact ⟨Below.refl _ _, rfl⟩
  case' n7 =>
    go_simp
    refine hK _ ?_
    clear hK K
  apply relWalk_rel rfl ?o8 (fun u8 K hK => ?n8)
  case o8 =>
    intro W hC hF
    obtain ⟨q0, q1, q2, q3, q4, q5, q6, q7, q8, q9, q10, q11, q12⟩ := hC.cells
    go_simp
    all_goals exact ⟨by go_grown, _, rfl, Blk.new _ _ _⟩
  case' n8 =>
    go_simp
    refine hK _ ?_
    clear hK K
  apply relWalk_ex rfl ?o9 (fun K hK => ?n9)
  case o9 =>
    intro W hC hF
    obtain ⟨q0, q1, q2, q3, q4, q5, q6, q7, q8, q9, q10, q11, q12⟩ := hC.cells
    go_simp
    all_goals exact ⟨Below.refl _ _, rfl⟩
  case' n9 =>
    go_simp
    refine hK _ ?_
    clear hK K
  apply relWalk_ex rfl ?o10 (fun K hK => ?n10)
  case o10 =>
    intro W hC hF
    obtain ⟨q0, q1, q2, q3, q4, q5, q6, q7, q8, q9, q10, q11, q12⟩ := hC.cells
    go_simp
    all_goals exact ⟨Below.refl _ _, rfl⟩
  case' n10 =>
    go_simp
    refine hK _ ?_
    clear hK K
  apply relWalk_ex rfl ?o11 (fun K hK => ?n11)
  case o11 =>
    intro W hC hF
    obtain ⟨q0, q1, q2, q3, q4, q5, q6, q7, q8, q9, q10, q11, q12⟩ := hC.cells
    go_simp
    all_goals exact ⟨Below.refl _ _, rfl⟩
  case' n11 =>
    go_simp
    refine hK _ ?_
    clear hK K
  apply relWalk_rel rfl ?o12 (fun u12 K hK => ?n12)
  case o12 =>
    intro W hC hF
    obtain ⟨⟨g, rfl, hB⟩, -⟩ := hF
    obtain ⟨q0, q1, q2, q3, q4, q5, q6, q7, q8, q9, q10, q11, q12⟩ := hC.cells
    go_simp
    all_goals exact ⟨by go_grown, g, rfl, hB⟩
  case' n12 =>
    go_simp
    refine hK _ ?_
    clear hK K
  apply relWalk_ex rfl ?o13 (fun K hK => ?n13)
  case o13 =>
    intro W hC hF
    obtain ⟨⟨g, rfl, hB⟩, -⟩ := hF
    have hx : W.cell? ⟨g, i, none⟩ = some (.string sF) := Hc1.out W g hB
    obtain ⟨q0, q1, q2, q3, q4, q5, q6, q7, q8, q9, q10, q11, q12⟩ := hC.cells
    go_simp
    all_goals exact ⟨Below.refl _ _, rfl⟩
  case' n13 =>
    go_simp
    refine hK _ ?_
    clear hK K
  apply relWalk_ex rfl ?o14 (fun K hK => ?n14)
  case o14 =>
    intro W hC hF
    obtain ⟨q0, q1, q2, q3, q4, q5, q6, q7, q8, q9, q10, q11, q12⟩ := hC.cells
    go_simp
    all_goals exact ⟨Below.refl _ _, rfl⟩
  case' n14 =>
    go_simp
    refine hK _ ?_
    clear hK K
  apply relWalk_rel rfl ?o15 (fun u15 K hK => ?n15)
  case o15 =>
    intro W hC hF
    obtain ⟨q0, q1, q2, q3, q4, q5, q6, q7, q8, q9, q10, q11, q12⟩ := hC.cells
    go_simp
    all_goals exact ⟨by go_grown, _, rfl, hC.2.1.lt, Blk.new _ _ _⟩
  case' n15 =>
    go_simp
    refine hK _ ?_
    clear hK K
  apply relWalk_end
  intro W hC hF hU
  obtain ⟨⟨g, rfl, hg, hB⟩, -⟩ := hF
  obtain ⟨hD, hZ, hb⟩ := hC
  refine wpList_store_mid rfl 31 (.tmp 3) (.tmp 18) rfl g 0 #[.int .i64 (off.tmod 604800), .int .i64 ((kd : Int) % 3), .int .i64 0, .string ⟨#[]⟩, .string sF, .bool false, .int .i64 0, .int .i64 0, .int .i64 0, .int .i64 0, .int .i64 0, .int .i64 0, .int .i64 0] rfl rfl (hB.there (Nat.le_refl _)) infoEra (by simp [Value.oneCell']) ?_
  have HB2 := Lib.hid (show Blk (W.setCells g 0 #[.int .i64 (off.tmod 604800), .int .i64 ((kd : Int) % 3), .int .i64 0, .string ⟨#[]⟩, .string sF, .bool false, .int .i64 0, .int .i64 0, .int .i64 0, .int .i64 0, .int .i64 0, .int .i64 0, .int .i64 0].toList) w.heap.size 43 #[.int .i32 off, .int .i32 sv, .int .i32 at_, .int .u8 (kd : Int), .int .u8 (st : Int), .int .u8 (fm : Int), .int .u8 (pt : Int), .int .u16 (yr : Int), .int .u8 (mo : Int), .int .u8 (bs : Int), .int .u8 (dk : Int), .int .u8 (dw : Int), .int .u8 (dd : Int)] ∧ Blk (W.setCells g 0 #[.int .i64 (off.tmod 604800), .int .i64 ((kd : Int) % 3), .int .i64 0, .string ⟨#[]⟩, .string sF, .bool false, .int .i64 0, .int .i64 0, .int .i64 0, .int .i64 0, .int .i64 0, .int .i64 0, .int .i64 0].toList) (w.heap.size + 1) 31 #[.int .i64 0, .int .i64 0, .int .i64 0, .string ⟨#[]⟩, .string ⟨#[]⟩, .bool false, .int .i64 0, .int .i64 0, .int .i64 0, .int .i64 0, .int .i64 0, .int .i64 0, .int .i64 0] ∧ Blk (W.setCells g 0 #[.int .i64 (off.tmod 604800), .int .i64 ((kd : Int) % 3), .int .i64 0, .string ⟨#[]⟩, .string sF, .bool false, .int .i64 0, .int .i64 0, .int .i64 0, .int .i64 0, .int .i64 0, .int .i64 0, .int .i64 0].toList) g 31 #[.int .i64 (off.tmod 604800), .int .i64 ((kd : Int) % 3), .int .i64 0, .string ⟨#[]⟩, .string sF, .bool false, .int .i64 0, .int .i64 0, .int .i64 0, .int .i64 0, .int .i64 0, .int .i64 0, .int .i64 0] ∧ Below w.heap.size w (W.setCells g 0 #[.int .i64 (off.tmod 604800), .int .i64 ((kd : Int) % 3), .int .i64 0, .string ⟨#[]⟩, .string sF, .bool false, .int .i64 0, .int .i64 0, .int .i64 0, .int .i64 0, .int .i64 0, .int .i64 0, .int .i64 0].toList) ∧ w.heap.size + 2 ≤ g from ⟨Blk.farSets hD (by omega) _ _, Blk.farSets hZ (by omega) _ _, hB.setAll #[.int .i64 (off.tmod 604800), .int .i64 ((kd : Int) % 3), .int .i64 0, .string ⟨#[]⟩, .string sF, .bool false, .int .i64 0, .int .i64 0, .int .i64 0, .int .i64 0, .int .i64 0, .int .i64 0, .int .i64 0] rfl, below_sets (by omega) _ _ _ hb, hg⟩)
  clear hU hD hZ hb hB hg HG htm hw1 hw3 Hc1 hiA hiB hiI
  generalize W.setCells g 0 #[.int .i64 (off.tmod 604800), .int .i64 ((kd : Int) % 3), .int .i64 0, .string ⟨#[]⟩, .string sF, .bool false, .int .i64 0, .int .i64 0, .int .i64 0, .int .i64 0, .int .i64 0, .int .i64 0, .int .i64 0].toList = w2 at *
  have k1 : w2.cell? ⟨g, 1, none⟩ = some (.int .i64 ((kd : Int) % 3)) := HB2.out.2.2.1.cell_ rfl
  have t4 : w2.cell? ⟨w.heap.size, 4, none⟩ = some (.int .u8 (st : Int)) := HB2.out.1.cell_ rfl
  have t6 : w2.cell? ⟨w.heap.size, 6, none⟩ = some (.int .u8 (pt : Int)) := HB2.out.1.cell_ rfl
  have q3 : w2.cell? ⟨g, 3, none⟩ = some (.string ⟨#[]⟩) := HB2.out.2.2.1.cell_ rfl
  have f3 := HB2.out.2.2.1.frozen 3
  have hlt := HB2.out.2.2.1.lt
  have hltD := HB2.out.1.lt
  have hx : (#[.string ⟨#[69, 105, 114, 101]⟩, .string ⟨#[82]⟩, .string ⟨#[67, 45, 69, 117, 114]⟩, .string ⟨#[97, 95, 49]⟩] : Array Value)[j]? = some (.string sS) := by
    have := Hc2.out _ _ (Blk.new' w2 9 #[.string ⟨#[69, 105, 114, 101]⟩, .string ⟨#[82]⟩, .string ⟨#[67, 45, 69, 117, 114]⟩, .string ⟨#[97, 95, 49]⟩] rfl)
    rwa [(Blk.new' w2 9 #[.string ⟨#[69, 105, 114, 101]⟩, .string ⟨#[82]⟩, .string ⟨#[67, 45, 69, 117, 114]⟩, .string ⟨#[97, 95, 49]⟩] rfl).cell] at this
  go_upto_region 7 with fail
  have HB3 := Lib.hid (show Blk ((w2.setCell ⟨g, 3, none⟩ (.string sS)).alloc (.cells #[.string ⟨#[69, 105, 114, 101]⟩, .string ⟨#[82]⟩, .string ⟨#[67, 45, 69, 117, 114]⟩, .string ⟨#[97, 95, 49]⟩] 9)) w.heap.size 43 #[.int .i32 off, .int .i32 sv, .int .i32 at_, .int .u8 (kd : Int), .int .u8 (st : Int), .int .u8 (fm : Int), .int .u8 (pt : Int), .int .u16 (yr : Int), .int .u8 (mo : Int), .int .u8 (bs : Int), .int .u8 (dk : Int), .int .u8 (dw : Int), .int .u8 (dd : Int)] ∧ Blk ((w2.setCell ⟨g, 3, none⟩ (.string sS)).alloc (.cells #[.string ⟨#[69, 105, 114, 101]⟩, .string ⟨#[82]⟩, .string ⟨#[67, 45, 69, 117, 114]⟩, .string ⟨#[97, 95, 49]⟩] 9)) (w.heap.size + 1) 31 #[.int .i64 0, .int .i64 0, .int .i64 0, .string ⟨#[]⟩, .string ⟨#[]⟩, .bool false, .int .i64 0, .int .i64 0, .int .i64 0, .int .i64 0, .int .i64 0, .int .i64 0, .int .i64 0] ∧ Blk ((w2.setCell ⟨g, 3, none⟩ (.string sS)).alloc (.cells #[.string ⟨#[69, 105, 114, 101]⟩, .string ⟨#[82]⟩, .string ⟨#[67, 45, 69, 117, 114]⟩, .string ⟨#[97, 95, 49]⟩] 9)) g 31 #[.int .i64 (off.tmod 604800), .int .i64 ((kd : Int) % 3), .int .i64 0, .string sS, .string sF, .bool false, .int .i64 0, .int .i64 0, .int .i64 0, .int .i64 0, .int .i64 0, .int .i64 0, .int .i64 0] ∧ Below w.heap.size w ((w2.setCell ⟨g, 3, none⟩ (.string sS)).alloc (.cells #[.string ⟨#[69, 105, 114, 101]⟩, .string ⟨#[82]⟩, .string ⟨#[67, 45, 69, 117, 114]⟩, .string ⟨#[97, 95, 49]⟩] 9)) ∧ w.heap.size + 2 ≤ g from ⟨(HB2.out.1.far (by have := HB2.out.2.2.2.2; simp; omega) _).alloc _, (HB2.out.2.1.far (by have := HB2.out.2.2.2.2; simp; omega) _).alloc _, (HB2.out.2.2.1.set_ 3 _).alloc _, rbelow_alloc (HB2.out.2.2.2.1.setCell (by have := HB2.out.2.2.2.2; simp; omega) _) _, HB2.out.2.2.2.2⟩)
  generalize ((w2.setCell ⟨g, 3, none⟩ (.string sS)).alloc (.cells #[.string ⟨#[69, 105, 114, 101]⟩, .string ⟨#[82]⟩, .string ⟨#[67, 45, 69, 117, 114]⟩, .string ⟨#[97, 95, 49]⟩] 9)) = w3 at *
  clear HB2 q3 f3 hlt t4 t6 k1 hltD hx
  have t6 : w3.cell? ⟨w.heap.size, 6, none⟩ = some (.int .u8 (pt : Int)) := HB3.out.1.cell_ rfl
  have t7 : w3.cell? ⟨w.heap.size, 7, none⟩ = some (.int .u16 (yr : Int)) := HB3.out.1.cell_ rfl
  go_wp2_with fail
  refine (until_any _ _ _ _ _ _).mono ?_
  rintro e w4 ⟨rfl, hb⟩
  have HB4 := Lib.hid (show Blk w4 w.heap.size 43 #[.int .i32 off, .int .i32 sv, .int .i32 at_, .int .u8 (kd : Int), .int .u8 (st : Int), .int .u8 (fm : Int), .int .u8 (pt : Int), .int .u16 (yr : Int), .int .u8 (mo : Int), .int .u8 (bs : Int), .int .u8 (dk : Int), .int .u8 (dw : Int), .int .u8 (dd : Int)] ∧ Blk w4 (w.heap.size + 1) 31 #[.int .i64 0, .int .i64 0, .int .i64 0, .string ⟨#[]⟩, .string ⟨#[]⟩, .bool false, .int .i64 0, .int .i64 0, .int .i64 0, .int .i64 0, .int .i64 0, .int .i64 0, .int .i64 0] ∧ Blk w4 g 31 #[.int .i64 (off.tmod 604800), .int .i64 ((kd : Int) % 3), .int .i64 0, .string sS, .string sF, .bool false, .int .i64 0, .int .i64 0, .int .i64 0, .int .i64 0, .int .i64 0, .int .i64 0, .int .i64 0] ∧ Below w.heap.size w w4 ∧ w.heap.size + 2 ≤ g from ⟨HB3.out.1.below hb HB3.out.1.lt, HB3.out.2.1.below hb HB3.out.2.1.lt, HB3.out.2.2.1.below hb HB3.out.2.2.1.lt, HB3.out.2.2.2.1.trans (hb.mono HB3.out.2.2.2.1.size), HB3.out.2.2.2.2⟩)
  clear hb HB3 t6 t7
  have q5 : w4.cell? ⟨g, 5, none⟩ = some (.bool false) := HB4.out.2.2.1.cell_ rfl
  have f5 := HB4.out.2.2.1.frozen 5
  have q6 : w4.cell? ⟨g, 6, none⟩ = some (.int .i64 0) := HB4.out.2.2.1.cell_ rfl
  have f6 := HB4.out.2.2.1.frozen 6
  have q7 : w4.cell? ⟨g, 7, none⟩ = some (.int .i64 0) := HB4.out.2.2.1.cell_ rfl
  have f7 := HB4.out.2.2.1.frozen 7
  have q8 : w4.cell? ⟨g, 8, none⟩ = some (.int .i64 0) := HB4.out.2.2.1.cell_ rfl
  have f8 := HB4.out.2.2.1.frozen 8
  have q9 : w4.cell? ⟨g, 9, none⟩ = some (.int .i64 0) := HB4.out.2.2.1.cell_ rfl
  have f9 := HB4.out.2.2.1.frozen 9
  have q10 : w4.cell? ⟨g, 10, none⟩ = some (.int .i64 0) := HB4.out.2.2.1.cell_ rfl
  have f10 := HB4.out.2.2.1.frozen 10
  have q11 : w4.cell? ⟨g, 11, none⟩ = some (.int .i64 0) := HB4.out.2.2.1.cell_ rfl
  have f11 := HB4.out.2.2.1.frozen 11
  have q12 : w4.cell? ⟨g, 12, none⟩ = some (.int .i64 0) := HB4.out.2.2.1.cell_ rfl
  have f12 := HB4.out.2.2.1.frozen 12
  have hlt := HB4.out.2.2.1.lt
  obtain ⟨w5, hw5⟩ : ∃ W, ((((((((w4.setCell ⟨g, 5, none⟩ (.bool true)).setCell ⟨g, 6, none⟩ (.int .i64 (1850 + (yr : Int) % 300))).setCell ⟨g, 7, none⟩ (.int .i64 1)).setCell ⟨g, 8, none⟩ (.int .i64 1)).setCell ⟨g, 9, none⟩ (.int .i64 0)).setCell ⟨g, 10, none⟩ (.int .i64 1)).setCell ⟨g, 11, none⟩ (.int .i64 0)).setCell ⟨g, 12, none⟩ (.int .i64 0)) = W := ⟨_, rfl⟩
  have HB5 := Lib.hid (show Blk w5 w.heap.size 43 #[.int .i32 off, .int .i32 sv, .int .i32 at_, .int .u8 (kd : Int), .int .u8 (st : Int), .int .u8 (fm : Int), .int .u8 (pt : Int), .int .u16 (yr : Int), .int .u8 (mo : Int), .int .u8 (bs : Int), .int .u8 (dk : Int), .int .u8 (dw : Int), .int .u8 (dd : Int)] ∧ Blk w5 (w.heap.size + 1) 31 #[.int .i64 0, .int .i64 0, .int .i64 0, .string ⟨#[]⟩, .string ⟨#[]⟩, .bool false, .int .i64 0, .int .i64 0, .int .i64 0, .int .i64 0, .int .i64 0, .int .i64 0, .int .i64 0] ∧ Blk w5 g 31 #[.int .i64 (off.tmod 604800), .int .i64 ((kd : Int) % 3), .int .i64 0, .string sS, .string sF, .bool true, .int .i64 (1850 + (yr : Int) % 300), .int .i64 1, .int .i64 1, .int .i64 0, .int .i64 1, .int .i64 0, .int .i64 0] ∧ Below w.heap.size w w5 ∧ w.heap.size + 2 ≤ g from by
    rw [← hw5]
    have hg := HB4.out.2.2.2.2
    exact ⟨Blk.farSets HB4.out.1 (by omega) [.bool true, .int .i64 (1850 + (yr : Int) % 300), .int .i64 1, .int .i64 1, .int .i64 0, .int .i64 1, .int .i64 0, .int .i64 0] 5, Blk.farSets HB4.out.2.1 (by omega) [.bool true, .int .i64 (1850 + (yr : Int) % 300), .int .i64 1, .int .i64 1, .int .i64 0, .int .i64 1, .int .i64 0, .int .i64 0] 5, Blk.setMid [.int .i64 (off.tmod 604800), .int .i64 ((kd : Int) % 3), .int .i64 0, .string sS, .string sF] [.bool false, .int .i64 0, .int .i64 0, .int .i64 0, .int .i64 0, .int .i64 0, .int .i64 0, .int .i64 0] [.bool true, .int .i64 (1850 + (yr : Int) % 300), .int .i64 1, .int .i64 1, .int .i64 0, .int .i64 1, .int .i64 0, .int .i64 0] [] HB4.out.2.2.1 rfl, below_sets (by omega) [.bool true, .int .i64 (1850 + (yr : Int) % 300), .int .i64 1, .int .i64 1, .int .i64 0, .int .i64 1, .int .i64 0, .int .i64 0] 5 _ HB4.out.2.2.2.1, hg⟩)
  go_upto_region 10 with fail
  try simp only [hw5]
  clear hw5 HB4 q5 f5 q6 f6 q7 f7 q8 f8 q9 f9 q10 f10 q11 f11 q12 f12 hlt
  have t6 : w5.cell? ⟨w.heap.size, 6, none⟩ = some (.int .u8 (pt : Int)) := HB5.out.1.cell_ rfl
  have t8 : w5.cell? ⟨w.heap.size, 8, none⟩ = some (.int .u8 (mo : Int)) := HB5.out.1.cell_ rfl
  have q7 : w5.cell? ⟨g, 7, none⟩ = some (.int .i64 1) := HB5.out.2.2.1.cell_ rfl
  have f7 := HB5.out.2.2.1.frozen 7
  have hlt := HB5.out.2.2.1.lt
  obtain ⟨w6, hw6⟩ : ∃ W, (w5.setCell ⟨g, 7, none⟩ (.int .i64 (1 + (mo : Int) % 12))) = W := ⟨_, rfl⟩
  have HB6 := Lib.hid (show Blk w6 w.heap.size 43 #[.int .i32 off, .int .i32 sv, .int .i32 at_, .int .u8 (kd : Int), .int .u8 (st : Int), .int .u8 (fm : Int), .int .u8 (pt : Int), .int .u16 (yr : Int), .int .u8 (mo : Int), .int .u8 (bs : Int), .int .u8 (dk : Int), .int .u8 (dw : Int), .int .u8 (dd : Int)] ∧ Blk w6 (w.heap.size + 1) 31 #[.int .i64 0, .int .i64 0, .int .i64 0, .string ⟨#[]⟩, .string ⟨#[]⟩, .bool false, .int .i64 0, .int .i64 0, .int .i64 0, .int .i64 0, .int .i64 0, .int .i64 0, .int .i64 0] ∧ Blk w6 g 31 #[.int .i64 (off.tmod 604800), .int .i64 ((kd : Int) % 3), .int .i64 0, .string sS, .string sF, .bool true, .int .i64 (1850 + (yr : Int) % 300), .int .i64 (1 + (mo : Int) % 12), .int .i64 1, .int .i64 0, .int .i64 1, .int .i64 0, .int .i64 0] ∧ Below w.heap.size w w6 ∧ w.heap.size + 2 ≤ g from by
    rw [← hw6]
    have hg := HB5.out.2.2.2.2
    exact ⟨Blk.farSets HB5.out.1 (by omega) [.int .i64 (1 + (mo : Int) % 12)] 7, Blk.farSets HB5.out.2.1 (by omega) [.int .i64 (1 + (mo : Int) % 12)] 7, Blk.setMid [.int .i64 (off.tmod 604800), .int .i64 ((kd : Int) % 3), .int .i64 0, .string sS, .string sF, .bool true, .int .i64 (1850 + (yr : Int) % 300)] [.int .i64 1] [.int .i64 (1 + (mo : Int) % 12)] [.int .i64 1, .int .i64 0, .int .i64 1, .int .i64 0, .int .i64 0] HB5.out.2.2.1 rfl, below_sets (by omega) [.int .i64 (1 + (mo : Int) % 12)] 7 _ HB5.out.2.2.2.1, hg⟩)
  go_upto_region 12 with fail
  try simp only [hw6]
  clear hw6 HB5 q7 f7 hlt t6 t8
  have t6 : w6.cell? ⟨w.heap.size, 6, none⟩ = some (.int .u8 (pt : Int)) := HB6.out.1.cell_ rfl
  have t10 : w6.cell? ⟨w.heap.size, 10, none⟩ = some (.int .u8 (dk : Int)) := HB6.out.1.cell_ rfl
  have t11 : w6.cell? ⟨w.heap.size, 11, none⟩ = some (.int .u8 (dw : Int)) := HB6.out.1.cell_ rfl
  have t12 : w6.cell? ⟨w.heap.size, 12, none⟩ = some (.int .u8 (dd : Int)) := HB6.out.1.cell_ rfl
  go_wp2_with fail
  refine (H2.out _).mono ?_
  rintro e w7 ⟨rfl, hb⟩
  have HB7 := Lib.hid (show Blk w7 w.heap.size 43 #[.int .i32 off, .int .i32 sv, .int .i32 at_, .int .u8 (kd : Int), .int .u8 (st : Int), .int .u8 (fm : Int), .int .u8 (pt : Int), .int .u16 (yr : Int), .int .u8 (mo : Int), .int .u8 (bs : Int), .int .u8 (dk : Int), .int .u8 (dw : Int), .int .u8 (dd : Int)] ∧ Blk w7 (w.heap.size + 1) 31 #[.int .i64 0, .int .i64 0, .int .i64 0, .string ⟨#[]⟩, .string ⟨#[]⟩, .bool false, .int .i64 0, .int .i64 0, .int .i64 0, .int .i64 0, .int .i64 0, .int .i64 0, .int .i64 0] ∧ Blk w7 g 31 #[.int .i64 (off.tmod 604800), .int .i64 ((kd : Int) % 3), .int .i64 0, .string sS, .string sF, .bool true, .int .i64 (1850 + (yr : Int) % 300), .int .i64 (1 + (mo : Int) % 12), .int .i64 1, .int .i64 0, .int .i64 1, .int .i64 0, .int .i64 0] ∧ Below w.heap.size w w7 ∧ w.heap.size + 2 ≤ g from ⟨HB6.out.1.below hb HB6.out.1.lt, HB6.out.2.1.below hb HB6.out.2.1.lt, HB6.out.2.2.1.below hb HB6.out.2.2.1.lt, HB6.out.2.2.2.1.trans (hb.mono HB6.out.2.2.2.1.size), HB6.out.2.2.2.2⟩)
  clear hb HB6 t6 t10 t11 t12
  have q8 : w7.cell? ⟨g, 8, none⟩ = some (.int .i64 1) := HB7.out.2.2.1.cell_ rfl
  have f8 := HB7.out.2.2.1.frozen 8
  have q9 : w7.cell? ⟨g, 9, none⟩ = some (.int .i64 0) := HB7.out.2.2.1.cell_ rfl
  have f9 := HB7.out.2.2.1.frozen 9
  have q10 : w7.cell? ⟨g, 10, none⟩ = some (.int .i64 1) := HB7.out.2.2.1.cell_ rfl
  have f10 := HB7.out.2.2.1.frozen 10
  have hlt := HB7.out.2.2.1.lt
  obtain ⟨w8, hw8⟩ : ∃ W, (((w7.setCell ⟨g, 8, none⟩ (.int .i64 m1)).setCell ⟨g, 9, none⟩ (.int .i64 m2)).setCell ⟨g, 10, none⟩ (.int .i64 m3)) = W := ⟨_, rfl⟩
  have HB8 := Lib.hid (show Blk w8 w.heap.size 43 #[.int .i32 off, .int .i32 sv, .int .i32 at_, .int .u8 (kd : Int), .int .u8 (st : Int), .int .u8 (fm : Int), .int .u8 (pt : Int), .int .u16 (yr : Int), .int .u8 (mo : Int), .int .u8 (bs : Int), .int .u8 (dk : Int), .int .u8 (dw : Int), .int .u8 (dd : Int)] ∧ Blk w8 (w.heap.size + 1) 31 #[.int .i64 0, .int .i64 0, .int .i64 0, .string ⟨#[]⟩, .string ⟨#[]⟩, .bool false, .int .i64 0, .int .i64 0, .int .i64 0, .int .i64 0, .int .i64 0, .int .i64 0, .int .i64 0] ∧ Blk w8 g 31 #[.int .i64 (off.tmod 604800), .int .i64 ((kd : Int) % 3), .int .i64 0, .string sS, .string sF, .bool true, .int .i64 (1850 + (yr : Int) % 300), .int .i64 (1 + (mo : Int) % 12), .int .i64 m1, .int .i64 m2, .int .i64 m3, .int .i64 0, .int .i64 0] ∧ Below w.heap.size w w8 ∧ w.heap.size + 2 ≤ g from by
    rw [← hw8]
    have hg := HB7.out.2.2.2.2
    exact ⟨Blk.farSets HB7.out.1 (by omega) [.int .i64 m1, .int .i64 m2, .int .i64 m3] 8, Blk.farSets HB7.out.2.1 (by omega) [.int .i64 m1, .int .i64 m2, .int .i64 m3] 8, Blk.setMid [.int .i64 (off.tmod 604800), .int .i64 ((kd : Int) % 3), .int .i64 0, .string sS, .string sF, .bool true, .int .i64 (1850 + (yr : Int) % 300), .int .i64 (1 + (mo : Int) % 12)] [.int .i64 1, .int .i64 0, .int .i64 1] [.int .i64 m1, .int .i64 m2, .int .i64 m3] [.int .i64 0, .int .i64 0] HB7.out.2.2.1 rfl, below_sets (by omega) [.int .i64 m1, .int .i64 m2, .int .i64 m3] 8 _ HB7.out.2.2.2.1, hg⟩)
  go_upto_region 14 with fail
  try simp only [hw8]
  clear hw8 HB7 q8 f8 q9 f9 q10 f10 hlt
  have t6 : w8.cell? ⟨w.heap.size, 6, none⟩ = some (.int .u8 (pt : Int)) := HB8.out.1.cell_ rfl
  obtain ⟨C, hCC⟩ : ∃ C : Array Value, #[.int .i64 (off.tmod 604800), .int .i64 ((kd : Int) % 3), .int .i64 0, .string sS, .string sF, .bool true, .int .i64 (1850 + (yr : Int) % 300), .int .i64 (1 + (mo : Int) % 12), .int .i64 m1, .int .i64 m2, .int .i64 m3, .int .i64 0, .int .i64 0] = C := ⟨_, rfl⟩
  have Hi := Lib.hid (show (Tryz.prog.info? 31).map (·.size) = some C.size ∧ C.all (·.oneCell') = true ∧ C.size = 13 from hCC ▸ ⟨infoEra, by simp [Value.oneCell'], rfl⟩)
  rw [hCC] at HB8
  have HCC := Lib.hid hCC
  clear hCC
  go_wp2_with (first
    | (refine wpList_load_row rfl 31 (.tmp 3) rfl g rfl 31 C (0, 0) _ HB8.out.2.2.1 Tryz.underlying31 rfl Hi.out.1 ?_)
    | (refine wpList_store_mid rfl 31 (.tmp 2) (.tmp 81) rfl (w.heap.size + 1) 0 C rfl rfl (HB8.out.2.1.there (by rw [Hi.out.2.2]; decide)) Hi.out.1 Hi.out.2.1 ?_))
  exact bodyPost_ret (results_cell_row rfl _ _ (w.heap.size + 1) 31 C (0, 0) _ rfl (HB8.out.2.1.setAll C Hi.out.2.2) Tryz.underlying31 rfl Hi.out.1) rfl ⟨by rw [← HCC.out], below_sets (by omega) _ _ _ HB8.out.2.2.2.1⟩

set_option maxRecDepth 100000 in
set_option maxHeartbeats 2000000 in
theorem emade_2_4 (off sv at_ : Int) (kd st fm pt yr mo bs dk dw dd : Nat) (m1 m2 m3 : Int) (sF sS : ByteArray) (w : World) (h1 : -2147483648 ≤ off ∧ off ≤ 2147483647) (h2 : -2147483648 ≤ sv ∧ sv ≤ 2147483647) (b1 : kd < 256) (b2 : st < 256) (b3 : fm < 256) (b4 : pt < 256) (b5 : yr < 65536) (b6 : mo < 256)
    (hk : kd % 3 = 2) (hp : pt % 5 = 4) (hF : efmtM fm = sF.data.toList) (hS : esetM st = sS.data.toList)
    (H2 : Hid (∀ W, Calls Tryz.prog 35 #[.agg #[.int .u8 (dk : Int), .int .u8 (dw : Int), .int .u8 (dd : Int)]] W fun e w' => e = .returned (.agg #[.int .i64 m1, .int .i64 m2, .int .i64 m3]) ∧ Below W.heap.size W w'))
    (H6 : Hid (∀ W, Calls Tryz.prog 36 #[.int .i32 at_, .int .u8 (bs : Int)] W fun e w' => e = .returned (.agg #[.int .i64 (at_.tmod 604800), .int .i64 ((bs : Int) % 3)]) ∧ Below W.heap.size W w')) :
    Calls Tryz.prog 15 #[.agg #[.int .i32 off, .int .i32 sv, .int .i32 at_, .int .u8 (kd : Int), .int .u8 (st : Int), .int .u8 (fm : Int), .int .u8 (pt : Int), .int .u16 (yr : Int), .int .u8 (mo : Int), .int .u8 (bs : Int), .int .u8 (dk : Int), .int .u8 (dw : Int), .int .u8 (dd : Int)]] w fun e w' => e = .returned (.agg #[.int .i64 (off.tmod 604800), .int .i64 ((kd : Int) % 3), .int .i64 0, .string sS, .string sF, .bool true, .int .i64 (1850 + (yr : Int) % 300), .int .i64 (1 + (mo : Int) % 12), .int .i64 m1, .int .i64 m2, .int .i64 m3, .int .i64 (at_.tmod 604800), .int .i64 ((bs : Int) % 3)]) ∧ Below w.heap.size w w' := by
  obtain ⟨h1a, h1b⟩ := h1
  obtain ⟨h2a, h2b⟩ := h2
  obtain ⟨i, hi⟩ : ∃ i, fm % 8 = i := ⟨_, rfl⟩
  obtain ⟨j, hj⟩ : ∃ j, st % 4 = j := ⟨_, rfl⟩
  have hi8 : i < 8 := by omega
  have hj4 : j < 4 := by omega
  have Hc1 := Lib.hid (show ∀ W g, Blk W g 9 #[.string ⟨#[71, 77, 84]⟩, .string ⟨#[65, 47, 66]⟩, .string ⟨#[37, 115]⟩, .string ⟨#[37, 122]⟩, .string ⟨#[43, 48, 53]⟩, .string ⟨#[43, 48, 53, 47, 43, 48, 54]⟩, .string ⟨#[67, 37, 115, 84]⟩, .string ⟨#[45, 48, 48]⟩] → W.cell? ⟨g, i, none⟩ = some (.string sF) from fun W g h => h.cell_ (by
    rw [show sF = ⟨(efmtM fm).toArray⟩ by rw [hF, ba_list], efmtM, hi]
    rcases (by omega : i = 0 ∨ i = 1 ∨ i = 2 ∨ i = 3 ∨ i = 4 ∨ i = 5 ∨ i = 6 ∨ i = 7) with h | h | h | h | h | h | h | h <;> subst h <;> rfl))
  have Hc2 := Lib.hid (show ∀ W g, Blk W g 9 #[.string ⟨#[69, 105, 114, 101]⟩, .string ⟨#[82]⟩, .string ⟨#[67, 45, 69, 117, 114]⟩, .string ⟨#[97, 95, 49]⟩] → W.cell? ⟨g, j, none⟩ = some (.string sS) from fun W g h => h.cell_ (by
    rw [show sS = ⟨(esetM st).toArray⟩ by rw [hS, ba_list], esetM, hj]
    rcases (by omega : j = 0 ∨ j = 1 ∨ j = 2 ∨ j = 3) with h | h | h | h <;> subst h <;> rfl))
  have htm : ∀ (a : Nat) (b : Int), (a : Int).tmod b = (a : Int) % b := fun a b => Int.tmod_eq_emod_of_nonneg (by omega)
  have hw1 : IntKind.i64.wrap off = off := IntWalk.i64_in _ (by omega)
  have hw2 : IntKind.i64.wrap sv = sv := IntWalk.i64_in _ (by omega)
  have hw3 : IntKind.i64.wrap ((kd : Int) % 3) = (kd : Int) % 3 := IntWalk.i64_in _ (by omega)
  have hiA : (0 : Int) ≤ (i : Int) := by omega
  have hiB : (i : Int) < 8 := by omega
  have hjA : (0 : Int) ≤ (j : Int) := by omega
  have hjB : (j : Int) < 4 := by omega
  have hiI : (fm : Int) % 8 = (i : Int) := by omega
  have hjI : (st : Int) % 4 = (j : Int) := by omega
  have e1 : ((kd : Int) % 3 == 1) = false := by rw [beq_eq_false_iff_ne]; omega
  have e2 : ((kd : Int) % 3 == 2) = true := by rw [beq_iff_eq]; omega
  have p0 : ((pt : Int) % 5 == 0) = false := by rw [beq_eq_false_iff_ne]; omega
  have g1 : decide (1 < (pt : Int) % 5) = true := decide_eq_true (by omega)
  have g2 : decide (2 < (pt : Int) % 5) = true := decide_eq_true (by omega)
  have g3 : decide (3 < (pt : Int) % 5) = true := decide_eq_true (by omega)
  clear hk hp hF hS hi hj hi8 hj4
  go_enter Tryz.func15, Tryz.ntmps15
  go_upto_region 1 with fail
  have HG : EHeld w off sv at_ kd st fm pt yr mo bs dk dw dd ((w.alloc (.cells #[.int .i32 off, .int .i32 sv, .int .i32 at_, .int .u8 (kd : Int), .int .u8 (st : Int), .int .u8 (fm : Int), .int .u8 (pt : Int), .int .u16 (yr : Int), .int .u8 (mo : Int), .int .u8 (bs : Int), .int .u8 (dk : Int), .int .u8 (dw : Int), .int .u8 (dd : Int)] 43)).alloc (.cells #[.int .i64 0, .int .i64 0, .int .i64 0, .string ⟨#[]⟩, .string ⟨#[]⟩, .bool false, .int .i64 0, .int .i64 0, .int .i64 0, .int .i64 0, .int .i64 0, .int .i64 0, .int .i64 0] 31)) := ⟨(Blk.new' _ _ _ rfl).alloc _, Blk.new' _ _ _ (by simp), by go_grown⟩
  refine wp_region_rels 16 [[], [], [], [], [], [], [], [], [], [], [], [], [8], [12], [], []] [Form.val, Form.val, Form.val, Form.val, Form.val, Form.val, Form.val, Form.val, Form.rel (TabIs 8 #[.string ⟨#[71, 77, 84]⟩, .string ⟨#[65, 47, 66]⟩, .string ⟨#[37, 115]⟩, .string ⟨#[37, 122]⟩, .string ⟨#[43, 48, 53]⟩, .string ⟨#[43, 48, 53, 47, 43, 48, 54]⟩, .string ⟨#[67, 37, 115, 84]⟩, .string ⟨#[45, 48, 48]⟩]), Form.val, Form.val, Form.val, Form.rel (PtrIs i #[.string ⟨#[71, 77, 84]⟩, .string ⟨#[65, 47, 66]⟩, .string ⟨#[37, 115]⟩, .string ⟨#[37, 122]⟩, .string ⟨#[43, 48, 53]⟩, .string ⟨#[43, 48, 53, 47, 43, 48, 54]⟩, .string ⟨#[67, 37, 115, 84]⟩, .string ⟨#[45, 48, 48]⟩]), Form.val, Form.val, Form.rel (NewEra (w.heap.size + 2))] (EHeld w off sv at_ kd st fm pt yr mo bs dk dw dd) (by kernel_rfl) (by kernel_rfl) rfl rfl (⟨HG.1, HG.2.1, HG.2.2.drew⟩) (fun W W' h hb => ⟨h.1.below hb h.1.lt, h.2.1.below hb h.2.1.lt, h.2.2.trans (hb.mono h.2.2.size)⟩) ⟨TabIs.lasts _ _, PtrIs.lasts _ _, NewEra.lasts _, trivial⟩ ?_
  repeat (first | apply exSpec_rel | apply exSpec_new | apply exSpec_val)
  apply relWalk_ex rfl ?o0 (fun K hK => ?n0)
  case o0 =>
    intro W hC hF
    obtain ⟨q0, q1, q2, q3, q4, q5, q6, q7, q8, q9, q10, q11, q12⟩ := hC.cells
    go_simp
    all_goals exact ⟨Below.refl _ _, rfl⟩
  case' n0 =>
    go_simp
    refine hK _ ?_
    clear hK K
  apply relWalk_ex rfl ?o1 (fun K hK => ?n1)
  case o1 =>
    intro W hC hF
    obtain ⟨q0, q1, q2, q3, q4, q5, q6, q7, q8, q9, q10, q11, q12⟩ := hC.cells
    go_simp
    all_goals exact ⟨Below.refl _ _, rfl⟩
  case' n1 =>
    go_simp
    refine hK _ ?_
    clear hK K
  apply relWalk_ex rfl ?o2 (fun K hK => ?n2)
  case o2 =>
    intro W hC hF
    obtain ⟨q0, q1, q2, q3, q4, q5, q6, q7, q8, q9, q10, q11, q12⟩ := hC.cells
    go_simp
    all_goals exact ⟨Below.refl _ _, rfl⟩
  case' n2 =>
    go_simp
    refine hK _ ?_
    clear hK K
  apply relWalk_ex rfl ?o3 (fun K hK => ?n3)
  case o3 =>
    intro W hC hF
    obtain ⟨q0, q1, q2, q3, q4, q5, q6, q7, q8, q9, q10, q11, q12⟩ := hC.cells
    go_simp
    all_goals exact ⟨Below.refl _ _, rfl⟩
  case' n3 =>
    go_simp
    refine hK _ ?_
    clear hK K
  apply relWalk_ex rfl ?o4 (fun K hK => ?n4)
  case o4 =>
    intro W hC hF
    obtain ⟨q0, q1, q2, q3, q4, q5, q6, q7, q8, q9, q10, q11, q12⟩ := hC.cells
    go_simp
    all_goals exact ⟨Below.refl _ _, rfl⟩
  case' n4 =>
    go_simp
    refine hK _ ?_
    clear hK K
  apply relWalk_ex rfl ?o5 (fun K hK => ?n5)
  case o5 =>
    intro W hC hF
    obtain ⟨q0, q1, q2, q3, q4, q5, q6, q7, q8, q9, q10, q11, q12⟩ := hC.cells
    go_simp
    all_goals exact ⟨Below.refl _ _, rfl⟩
  case' n5 =>
    go_simp
    refine hK _ ?_
    clear hK K
  apply relWalk_ex rfl ?o6 (fun K hK => ?n6)
  case o6 =>
    intro W hC hF
    obtain ⟨q0, q1, q2, q3, q4, q5, q6, q7, q8, q9, q10, q11, q12⟩ := hC.cells
    go_simp
    all_goals exact ⟨Below.refl _ _, rfl⟩
  case' n6 =>
    go_simp
    refine hK _ ?_
    clear hK K
  apply relWalk_ex rfl ?o7 (fun K hK => ?n7)
  case o7 =>
    intro W hC hF
    obtain ⟨q0, q1, q2, q3, q4, q5, q6, q7, q8, q9, q10, q11, q12⟩ := hC.cells
    go_simp
    all_goals exact ⟨Below.refl _ _, rfl⟩
  case' n7 =>
    go_simp
    refine hK _ ?_
    clear hK K
  apply relWalk_rel rfl ?o8 (fun u8 K hK => ?n8)
  case o8 =>
    intro W hC hF
    obtain ⟨q0, q1, q2, q3, q4, q5, q6, q7, q8, q9, q10, q11, q12⟩ := hC.cells
    go_simp
    all_goals exact ⟨by go_grown, _, rfl, Blk.new _ _ _⟩
  case' n8 =>
    go_simp
    refine hK _ ?_
    clear hK K
  apply relWalk_ex rfl ?o9 (fun K hK => ?n9)
  case o9 =>
    intro W hC hF
    obtain ⟨q0, q1, q2, q3, q4, q5, q6, q7, q8, q9, q10, q11, q12⟩ := hC.cells
    go_simp
    all_goals exact ⟨Below.refl _ _, rfl⟩
  case' n9 =>
    go_simp
    refine hK _ ?_
    clear hK K
  apply relWalk_ex rfl ?o10 (fun K hK => ?n10)
  case o10 =>
    intro W hC hF
    obtain ⟨q0, q1, q2, q3, q4, q5, q6, q7, q8, q9, q10, q11, q12⟩ := hC.cells
    go_simp
    all_goals exact ⟨Below.refl _ _, rfl⟩
  case' n10 =>
    go_simp
    refine hK _ ?_
    clear hK K
  apply relWalk_ex rfl ?o11 (fun K hK => ?n11)
  case o11 =>
    intro W hC hF
    obtain ⟨q0, q1, q2, q3, q4, q5, q6, q7, q8, q9, q10, q11, q12⟩ := hC.cells
    go_simp
    all_goals exact ⟨Below.refl _ _, rfl⟩
  case' n11 =>
    go_simp
    refine hK _ ?_
    clear hK K
  apply relWalk_rel rfl ?o12 (fun u12 K hK => ?n12)
  case o12 =>
    intro W hC hF
    obtain ⟨⟨g, rfl, hB⟩, -⟩ := hF
    obtain ⟨q0, q1, q2, q3, q4, q5, q6, q7, q8, q9, q10, q11, q12⟩ := hC.cells
    go_simp
    all_goals exact ⟨by go_grown, g, rfl, hB⟩
  case' n12 =>
    go_simp
    refine hK _ ?_
    clear hK K
  apply relWalk_ex rfl ?o13 (fun K hK => ?n13)
  case o13 =>
    intro W hC hF
    obtain ⟨⟨g, rfl, hB⟩, -⟩ := hF
    have hx : W.cell? ⟨g, i, none⟩ = some (.string sF) := Hc1.out W g hB
    obtain ⟨q0, q1, q2, q3, q4, q5, q6, q7, q8, q9, q10, q11, q12⟩ := hC.cells
    go_simp
    all_goals exact ⟨Below.refl _ _, rfl⟩
  case' n13 =>
    go_simp
    refine hK _ ?_
    clear hK K
  apply relWalk_ex rfl ?o14 (fun K hK => ?n14)
  case o14 =>
    intro W hC hF
    obtain ⟨q0, q1, q2, q3, q4, q5, q6, q7, q8, q9, q10, q11, q12⟩ := hC.cells
    go_simp
    all_goals exact ⟨Below.refl _ _, rfl⟩
  case' n14 =>
    go_simp
    refine hK _ ?_
    clear hK K
  apply relWalk_rel rfl ?o15 (fun u15 K hK => ?n15)
  case o15 =>
    intro W hC hF
    obtain ⟨q0, q1, q2, q3, q4, q5, q6, q7, q8, q9, q10, q11, q12⟩ := hC.cells
    go_simp
    all_goals exact ⟨by go_grown, _, rfl, hC.2.1.lt, Blk.new _ _ _⟩
  case' n15 =>
    go_simp
    refine hK _ ?_
    clear hK K
  apply relWalk_end
  intro W hC hF hU
  obtain ⟨⟨g, rfl, hg, hB⟩, -⟩ := hF
  obtain ⟨hD, hZ, hb⟩ := hC
  refine wpList_store_mid rfl 31 (.tmp 3) (.tmp 18) rfl g 0 #[.int .i64 (off.tmod 604800), .int .i64 ((kd : Int) % 3), .int .i64 0, .string ⟨#[]⟩, .string sF, .bool false, .int .i64 0, .int .i64 0, .int .i64 0, .int .i64 0, .int .i64 0, .int .i64 0, .int .i64 0] rfl rfl (hB.there (Nat.le_refl _)) infoEra (by simp [Value.oneCell']) ?_
  have HB2 := Lib.hid (show Blk (W.setCells g 0 #[.int .i64 (off.tmod 604800), .int .i64 ((kd : Int) % 3), .int .i64 0, .string ⟨#[]⟩, .string sF, .bool false, .int .i64 0, .int .i64 0, .int .i64 0, .int .i64 0, .int .i64 0, .int .i64 0, .int .i64 0].toList) w.heap.size 43 #[.int .i32 off, .int .i32 sv, .int .i32 at_, .int .u8 (kd : Int), .int .u8 (st : Int), .int .u8 (fm : Int), .int .u8 (pt : Int), .int .u16 (yr : Int), .int .u8 (mo : Int), .int .u8 (bs : Int), .int .u8 (dk : Int), .int .u8 (dw : Int), .int .u8 (dd : Int)] ∧ Blk (W.setCells g 0 #[.int .i64 (off.tmod 604800), .int .i64 ((kd : Int) % 3), .int .i64 0, .string ⟨#[]⟩, .string sF, .bool false, .int .i64 0, .int .i64 0, .int .i64 0, .int .i64 0, .int .i64 0, .int .i64 0, .int .i64 0].toList) (w.heap.size + 1) 31 #[.int .i64 0, .int .i64 0, .int .i64 0, .string ⟨#[]⟩, .string ⟨#[]⟩, .bool false, .int .i64 0, .int .i64 0, .int .i64 0, .int .i64 0, .int .i64 0, .int .i64 0, .int .i64 0] ∧ Blk (W.setCells g 0 #[.int .i64 (off.tmod 604800), .int .i64 ((kd : Int) % 3), .int .i64 0, .string ⟨#[]⟩, .string sF, .bool false, .int .i64 0, .int .i64 0, .int .i64 0, .int .i64 0, .int .i64 0, .int .i64 0, .int .i64 0].toList) g 31 #[.int .i64 (off.tmod 604800), .int .i64 ((kd : Int) % 3), .int .i64 0, .string ⟨#[]⟩, .string sF, .bool false, .int .i64 0, .int .i64 0, .int .i64 0, .int .i64 0, .int .i64 0, .int .i64 0, .int .i64 0] ∧ Below w.heap.size w (W.setCells g 0 #[.int .i64 (off.tmod 604800), .int .i64 ((kd : Int) % 3), .int .i64 0, .string ⟨#[]⟩, .string sF, .bool false, .int .i64 0, .int .i64 0, .int .i64 0, .int .i64 0, .int .i64 0, .int .i64 0, .int .i64 0].toList) ∧ w.heap.size + 2 ≤ g from ⟨Blk.farSets hD (by omega) _ _, Blk.farSets hZ (by omega) _ _, hB.setAll #[.int .i64 (off.tmod 604800), .int .i64 ((kd : Int) % 3), .int .i64 0, .string ⟨#[]⟩, .string sF, .bool false, .int .i64 0, .int .i64 0, .int .i64 0, .int .i64 0, .int .i64 0, .int .i64 0, .int .i64 0] rfl, below_sets (by omega) _ _ _ hb, hg⟩)
  clear hU hD hZ hb hB hg HG htm hw1 hw3 Hc1 hiA hiB hiI
  generalize W.setCells g 0 #[.int .i64 (off.tmod 604800), .int .i64 ((kd : Int) % 3), .int .i64 0, .string ⟨#[]⟩, .string sF, .bool false, .int .i64 0, .int .i64 0, .int .i64 0, .int .i64 0, .int .i64 0, .int .i64 0, .int .i64 0].toList = w2 at *
  have k1 : w2.cell? ⟨g, 1, none⟩ = some (.int .i64 ((kd : Int) % 3)) := HB2.out.2.2.1.cell_ rfl
  have t4 : w2.cell? ⟨w.heap.size, 4, none⟩ = some (.int .u8 (st : Int)) := HB2.out.1.cell_ rfl
  have t6 : w2.cell? ⟨w.heap.size, 6, none⟩ = some (.int .u8 (pt : Int)) := HB2.out.1.cell_ rfl
  have q3 : w2.cell? ⟨g, 3, none⟩ = some (.string ⟨#[]⟩) := HB2.out.2.2.1.cell_ rfl
  have f3 := HB2.out.2.2.1.frozen 3
  have hlt := HB2.out.2.2.1.lt
  have hltD := HB2.out.1.lt
  have hx : (#[.string ⟨#[69, 105, 114, 101]⟩, .string ⟨#[82]⟩, .string ⟨#[67, 45, 69, 117, 114]⟩, .string ⟨#[97, 95, 49]⟩] : Array Value)[j]? = some (.string sS) := by
    have := Hc2.out _ _ (Blk.new' w2 9 #[.string ⟨#[69, 105, 114, 101]⟩, .string ⟨#[82]⟩, .string ⟨#[67, 45, 69, 117, 114]⟩, .string ⟨#[97, 95, 49]⟩] rfl)
    rwa [(Blk.new' w2 9 #[.string ⟨#[69, 105, 114, 101]⟩, .string ⟨#[82]⟩, .string ⟨#[67, 45, 69, 117, 114]⟩, .string ⟨#[97, 95, 49]⟩] rfl).cell] at this
  go_upto_region 7 with fail
  have HB3 := Lib.hid (show Blk ((w2.setCell ⟨g, 3, none⟩ (.string sS)).alloc (.cells #[.string ⟨#[69, 105, 114, 101]⟩, .string ⟨#[82]⟩, .string ⟨#[67, 45, 69, 117, 114]⟩, .string ⟨#[97, 95, 49]⟩] 9)) w.heap.size 43 #[.int .i32 off, .int .i32 sv, .int .i32 at_, .int .u8 (kd : Int), .int .u8 (st : Int), .int .u8 (fm : Int), .int .u8 (pt : Int), .int .u16 (yr : Int), .int .u8 (mo : Int), .int .u8 (bs : Int), .int .u8 (dk : Int), .int .u8 (dw : Int), .int .u8 (dd : Int)] ∧ Blk ((w2.setCell ⟨g, 3, none⟩ (.string sS)).alloc (.cells #[.string ⟨#[69, 105, 114, 101]⟩, .string ⟨#[82]⟩, .string ⟨#[67, 45, 69, 117, 114]⟩, .string ⟨#[97, 95, 49]⟩] 9)) (w.heap.size + 1) 31 #[.int .i64 0, .int .i64 0, .int .i64 0, .string ⟨#[]⟩, .string ⟨#[]⟩, .bool false, .int .i64 0, .int .i64 0, .int .i64 0, .int .i64 0, .int .i64 0, .int .i64 0, .int .i64 0] ∧ Blk ((w2.setCell ⟨g, 3, none⟩ (.string sS)).alloc (.cells #[.string ⟨#[69, 105, 114, 101]⟩, .string ⟨#[82]⟩, .string ⟨#[67, 45, 69, 117, 114]⟩, .string ⟨#[97, 95, 49]⟩] 9)) g 31 #[.int .i64 (off.tmod 604800), .int .i64 ((kd : Int) % 3), .int .i64 0, .string sS, .string sF, .bool false, .int .i64 0, .int .i64 0, .int .i64 0, .int .i64 0, .int .i64 0, .int .i64 0, .int .i64 0] ∧ Below w.heap.size w ((w2.setCell ⟨g, 3, none⟩ (.string sS)).alloc (.cells #[.string ⟨#[69, 105, 114, 101]⟩, .string ⟨#[82]⟩, .string ⟨#[67, 45, 69, 117, 114]⟩, .string ⟨#[97, 95, 49]⟩] 9)) ∧ w.heap.size + 2 ≤ g from ⟨(HB2.out.1.far (by have := HB2.out.2.2.2.2; simp; omega) _).alloc _, (HB2.out.2.1.far (by have := HB2.out.2.2.2.2; simp; omega) _).alloc _, (HB2.out.2.2.1.set_ 3 _).alloc _, rbelow_alloc (HB2.out.2.2.2.1.setCell (by have := HB2.out.2.2.2.2; simp; omega) _) _, HB2.out.2.2.2.2⟩)
  generalize ((w2.setCell ⟨g, 3, none⟩ (.string sS)).alloc (.cells #[.string ⟨#[69, 105, 114, 101]⟩, .string ⟨#[82]⟩, .string ⟨#[67, 45, 69, 117, 114]⟩, .string ⟨#[97, 95, 49]⟩] 9)) = w3 at *
  clear HB2 q3 f3 hlt t4 t6 k1 hltD hx
  have t6 : w3.cell? ⟨w.heap.size, 6, none⟩ = some (.int .u8 (pt : Int)) := HB3.out.1.cell_ rfl
  have t7 : w3.cell? ⟨w.heap.size, 7, none⟩ = some (.int .u16 (yr : Int)) := HB3.out.1.cell_ rfl
  go_wp2_with fail
  refine (until_any _ _ _ _ _ _).mono ?_
  rintro e w4 ⟨rfl, hb⟩
  have HB4 := Lib.hid (show Blk w4 w.heap.size 43 #[.int .i32 off, .int .i32 sv, .int .i32 at_, .int .u8 (kd : Int), .int .u8 (st : Int), .int .u8 (fm : Int), .int .u8 (pt : Int), .int .u16 (yr : Int), .int .u8 (mo : Int), .int .u8 (bs : Int), .int .u8 (dk : Int), .int .u8 (dw : Int), .int .u8 (dd : Int)] ∧ Blk w4 (w.heap.size + 1) 31 #[.int .i64 0, .int .i64 0, .int .i64 0, .string ⟨#[]⟩, .string ⟨#[]⟩, .bool false, .int .i64 0, .int .i64 0, .int .i64 0, .int .i64 0, .int .i64 0, .int .i64 0, .int .i64 0] ∧ Blk w4 g 31 #[.int .i64 (off.tmod 604800), .int .i64 ((kd : Int) % 3), .int .i64 0, .string sS, .string sF, .bool false, .int .i64 0, .int .i64 0, .int .i64 0, .int .i64 0, .int .i64 0, .int .i64 0, .int .i64 0] ∧ Below w.heap.size w w4 ∧ w.heap.size + 2 ≤ g from ⟨HB3.out.1.below hb HB3.out.1.lt, HB3.out.2.1.below hb HB3.out.2.1.lt, HB3.out.2.2.1.below hb HB3.out.2.2.1.lt, HB3.out.2.2.2.1.trans (hb.mono HB3.out.2.2.2.1.size), HB3.out.2.2.2.2⟩)
  clear hb HB3 t6 t7
  have q5 : w4.cell? ⟨g, 5, none⟩ = some (.bool false) := HB4.out.2.2.1.cell_ rfl
  have f5 := HB4.out.2.2.1.frozen 5
  have q6 : w4.cell? ⟨g, 6, none⟩ = some (.int .i64 0) := HB4.out.2.2.1.cell_ rfl
  have f6 := HB4.out.2.2.1.frozen 6
  have q7 : w4.cell? ⟨g, 7, none⟩ = some (.int .i64 0) := HB4.out.2.2.1.cell_ rfl
  have f7 := HB4.out.2.2.1.frozen 7
  have q8 : w4.cell? ⟨g, 8, none⟩ = some (.int .i64 0) := HB4.out.2.2.1.cell_ rfl
  have f8 := HB4.out.2.2.1.frozen 8
  have q9 : w4.cell? ⟨g, 9, none⟩ = some (.int .i64 0) := HB4.out.2.2.1.cell_ rfl
  have f9 := HB4.out.2.2.1.frozen 9
  have q10 : w4.cell? ⟨g, 10, none⟩ = some (.int .i64 0) := HB4.out.2.2.1.cell_ rfl
  have f10 := HB4.out.2.2.1.frozen 10
  have q11 : w4.cell? ⟨g, 11, none⟩ = some (.int .i64 0) := HB4.out.2.2.1.cell_ rfl
  have f11 := HB4.out.2.2.1.frozen 11
  have q12 : w4.cell? ⟨g, 12, none⟩ = some (.int .i64 0) := HB4.out.2.2.1.cell_ rfl
  have f12 := HB4.out.2.2.1.frozen 12
  have hlt := HB4.out.2.2.1.lt
  obtain ⟨w5, hw5⟩ : ∃ W, ((((((((w4.setCell ⟨g, 5, none⟩ (.bool true)).setCell ⟨g, 6, none⟩ (.int .i64 (1850 + (yr : Int) % 300))).setCell ⟨g, 7, none⟩ (.int .i64 1)).setCell ⟨g, 8, none⟩ (.int .i64 1)).setCell ⟨g, 9, none⟩ (.int .i64 0)).setCell ⟨g, 10, none⟩ (.int .i64 1)).setCell ⟨g, 11, none⟩ (.int .i64 0)).setCell ⟨g, 12, none⟩ (.int .i64 0)) = W := ⟨_, rfl⟩
  have HB5 := Lib.hid (show Blk w5 w.heap.size 43 #[.int .i32 off, .int .i32 sv, .int .i32 at_, .int .u8 (kd : Int), .int .u8 (st : Int), .int .u8 (fm : Int), .int .u8 (pt : Int), .int .u16 (yr : Int), .int .u8 (mo : Int), .int .u8 (bs : Int), .int .u8 (dk : Int), .int .u8 (dw : Int), .int .u8 (dd : Int)] ∧ Blk w5 (w.heap.size + 1) 31 #[.int .i64 0, .int .i64 0, .int .i64 0, .string ⟨#[]⟩, .string ⟨#[]⟩, .bool false, .int .i64 0, .int .i64 0, .int .i64 0, .int .i64 0, .int .i64 0, .int .i64 0, .int .i64 0] ∧ Blk w5 g 31 #[.int .i64 (off.tmod 604800), .int .i64 ((kd : Int) % 3), .int .i64 0, .string sS, .string sF, .bool true, .int .i64 (1850 + (yr : Int) % 300), .int .i64 1, .int .i64 1, .int .i64 0, .int .i64 1, .int .i64 0, .int .i64 0] ∧ Below w.heap.size w w5 ∧ w.heap.size + 2 ≤ g from by
    rw [← hw5]
    have hg := HB4.out.2.2.2.2
    exact ⟨Blk.farSets HB4.out.1 (by omega) [.bool true, .int .i64 (1850 + (yr : Int) % 300), .int .i64 1, .int .i64 1, .int .i64 0, .int .i64 1, .int .i64 0, .int .i64 0] 5, Blk.farSets HB4.out.2.1 (by omega) [.bool true, .int .i64 (1850 + (yr : Int) % 300), .int .i64 1, .int .i64 1, .int .i64 0, .int .i64 1, .int .i64 0, .int .i64 0] 5, Blk.setMid [.int .i64 (off.tmod 604800), .int .i64 ((kd : Int) % 3), .int .i64 0, .string sS, .string sF] [.bool false, .int .i64 0, .int .i64 0, .int .i64 0, .int .i64 0, .int .i64 0, .int .i64 0, .int .i64 0] [.bool true, .int .i64 (1850 + (yr : Int) % 300), .int .i64 1, .int .i64 1, .int .i64 0, .int .i64 1, .int .i64 0, .int .i64 0] [] HB4.out.2.2.1 rfl, below_sets (by omega) [.bool true, .int .i64 (1850 + (yr : Int) % 300), .int .i64 1, .int .i64 1, .int .i64 0, .int .i64 1, .int .i64 0, .int .i64 0] 5 _ HB4.out.2.2.2.1, hg⟩)
  go_upto_region 10 with fail
  try simp only [hw5]
  clear hw5 HB4 q5 f5 q6 f6 q7 f7 q8 f8 q9 f9 q10 f10 q11 f11 q12 f12 hlt
  have t6 : w5.cell? ⟨w.heap.size, 6, none⟩ = some (.int .u8 (pt : Int)) := HB5.out.1.cell_ rfl
  have t8 : w5.cell? ⟨w.heap.size, 8, none⟩ = some (.int .u8 (mo : Int)) := HB5.out.1.cell_ rfl
  have q7 : w5.cell? ⟨g, 7, none⟩ = some (.int .i64 1) := HB5.out.2.2.1.cell_ rfl
  have f7 := HB5.out.2.2.1.frozen 7
  have hlt := HB5.out.2.2.1.lt
  obtain ⟨w6, hw6⟩ : ∃ W, (w5.setCell ⟨g, 7, none⟩ (.int .i64 (1 + (mo : Int) % 12))) = W := ⟨_, rfl⟩
  have HB6 := Lib.hid (show Blk w6 w.heap.size 43 #[.int .i32 off, .int .i32 sv, .int .i32 at_, .int .u8 (kd : Int), .int .u8 (st : Int), .int .u8 (fm : Int), .int .u8 (pt : Int), .int .u16 (yr : Int), .int .u8 (mo : Int), .int .u8 (bs : Int), .int .u8 (dk : Int), .int .u8 (dw : Int), .int .u8 (dd : Int)] ∧ Blk w6 (w.heap.size + 1) 31 #[.int .i64 0, .int .i64 0, .int .i64 0, .string ⟨#[]⟩, .string ⟨#[]⟩, .bool false, .int .i64 0, .int .i64 0, .int .i64 0, .int .i64 0, .int .i64 0, .int .i64 0, .int .i64 0] ∧ Blk w6 g 31 #[.int .i64 (off.tmod 604800), .int .i64 ((kd : Int) % 3), .int .i64 0, .string sS, .string sF, .bool true, .int .i64 (1850 + (yr : Int) % 300), .int .i64 (1 + (mo : Int) % 12), .int .i64 1, .int .i64 0, .int .i64 1, .int .i64 0, .int .i64 0] ∧ Below w.heap.size w w6 ∧ w.heap.size + 2 ≤ g from by
    rw [← hw6]
    have hg := HB5.out.2.2.2.2
    exact ⟨Blk.farSets HB5.out.1 (by omega) [.int .i64 (1 + (mo : Int) % 12)] 7, Blk.farSets HB5.out.2.1 (by omega) [.int .i64 (1 + (mo : Int) % 12)] 7, Blk.setMid [.int .i64 (off.tmod 604800), .int .i64 ((kd : Int) % 3), .int .i64 0, .string sS, .string sF, .bool true, .int .i64 (1850 + (yr : Int) % 300)] [.int .i64 1] [.int .i64 (1 + (mo : Int) % 12)] [.int .i64 1, .int .i64 0, .int .i64 1, .int .i64 0, .int .i64 0] HB5.out.2.2.1 rfl, below_sets (by omega) [.int .i64 (1 + (mo : Int) % 12)] 7 _ HB5.out.2.2.2.1, hg⟩)
  go_upto_region 12 with fail
  try simp only [hw6]
  clear hw6 HB5 q7 f7 hlt t6 t8
  have t6 : w6.cell? ⟨w.heap.size, 6, none⟩ = some (.int .u8 (pt : Int)) := HB6.out.1.cell_ rfl
  have t10 : w6.cell? ⟨w.heap.size, 10, none⟩ = some (.int .u8 (dk : Int)) := HB6.out.1.cell_ rfl
  have t11 : w6.cell? ⟨w.heap.size, 11, none⟩ = some (.int .u8 (dw : Int)) := HB6.out.1.cell_ rfl
  have t12 : w6.cell? ⟨w.heap.size, 12, none⟩ = some (.int .u8 (dd : Int)) := HB6.out.1.cell_ rfl
  go_wp2_with fail
  refine (H2.out _).mono ?_
  rintro e w7 ⟨rfl, hb⟩
  have HB7 := Lib.hid (show Blk w7 w.heap.size 43 #[.int .i32 off, .int .i32 sv, .int .i32 at_, .int .u8 (kd : Int), .int .u8 (st : Int), .int .u8 (fm : Int), .int .u8 (pt : Int), .int .u16 (yr : Int), .int .u8 (mo : Int), .int .u8 (bs : Int), .int .u8 (dk : Int), .int .u8 (dw : Int), .int .u8 (dd : Int)] ∧ Blk w7 (w.heap.size + 1) 31 #[.int .i64 0, .int .i64 0, .int .i64 0, .string ⟨#[]⟩, .string ⟨#[]⟩, .bool false, .int .i64 0, .int .i64 0, .int .i64 0, .int .i64 0, .int .i64 0, .int .i64 0, .int .i64 0] ∧ Blk w7 g 31 #[.int .i64 (off.tmod 604800), .int .i64 ((kd : Int) % 3), .int .i64 0, .string sS, .string sF, .bool true, .int .i64 (1850 + (yr : Int) % 300), .int .i64 (1 + (mo : Int) % 12), .int .i64 1, .int .i64 0, .int .i64 1, .int .i64 0, .int .i64 0] ∧ Below w.heap.size w w7 ∧ w.heap.size + 2 ≤ g from ⟨HB6.out.1.below hb HB6.out.1.lt, HB6.out.2.1.below hb HB6.out.2.1.lt, HB6.out.2.2.1.below hb HB6.out.2.2.1.lt, HB6.out.2.2.2.1.trans (hb.mono HB6.out.2.2.2.1.size), HB6.out.2.2.2.2⟩)
  clear hb HB6 t6 t10 t11 t12
  have q8 : w7.cell? ⟨g, 8, none⟩ = some (.int .i64 1) := HB7.out.2.2.1.cell_ rfl
  have f8 := HB7.out.2.2.1.frozen 8
  have q9 : w7.cell? ⟨g, 9, none⟩ = some (.int .i64 0) := HB7.out.2.2.1.cell_ rfl
  have f9 := HB7.out.2.2.1.frozen 9
  have q10 : w7.cell? ⟨g, 10, none⟩ = some (.int .i64 1) := HB7.out.2.2.1.cell_ rfl
  have f10 := HB7.out.2.2.1.frozen 10
  have hlt := HB7.out.2.2.1.lt
  obtain ⟨w8, hw8⟩ : ∃ W, (((w7.setCell ⟨g, 8, none⟩ (.int .i64 m1)).setCell ⟨g, 9, none⟩ (.int .i64 m2)).setCell ⟨g, 10, none⟩ (.int .i64 m3)) = W := ⟨_, rfl⟩
  have HB8 := Lib.hid (show Blk w8 w.heap.size 43 #[.int .i32 off, .int .i32 sv, .int .i32 at_, .int .u8 (kd : Int), .int .u8 (st : Int), .int .u8 (fm : Int), .int .u8 (pt : Int), .int .u16 (yr : Int), .int .u8 (mo : Int), .int .u8 (bs : Int), .int .u8 (dk : Int), .int .u8 (dw : Int), .int .u8 (dd : Int)] ∧ Blk w8 (w.heap.size + 1) 31 #[.int .i64 0, .int .i64 0, .int .i64 0, .string ⟨#[]⟩, .string ⟨#[]⟩, .bool false, .int .i64 0, .int .i64 0, .int .i64 0, .int .i64 0, .int .i64 0, .int .i64 0, .int .i64 0] ∧ Blk w8 g 31 #[.int .i64 (off.tmod 604800), .int .i64 ((kd : Int) % 3), .int .i64 0, .string sS, .string sF, .bool true, .int .i64 (1850 + (yr : Int) % 300), .int .i64 (1 + (mo : Int) % 12), .int .i64 m1, .int .i64 m2, .int .i64 m3, .int .i64 0, .int .i64 0] ∧ Below w.heap.size w w8 ∧ w.heap.size + 2 ≤ g from by
    rw [← hw8]
    have hg := HB7.out.2.2.2.2
    exact ⟨Blk.farSets HB7.out.1 (by omega) [.int .i64 m1, .int .i64 m2, .int .i64 m3] 8, Blk.farSets HB7.out.2.1 (by omega) [.int .i64 m1, .int .i64 m2, .int .i64 m3] 8, Blk.setMid [.int .i64 (off.tmod 604800), .int .i64 ((kd : Int) % 3), .int .i64 0, .string sS, .string sF, .bool true, .int .i64 (1850 + (yr : Int) % 300), .int .i64 (1 + (mo : Int) % 12)] [.int .i64 1, .int .i64 0, .int .i64 1] [.int .i64 m1, .int .i64 m2, .int .i64 m3] [.int .i64 0, .int .i64 0] HB7.out.2.2.1 rfl, below_sets (by omega) [.int .i64 m1, .int .i64 m2, .int .i64 m3] 8 _ HB7.out.2.2.2.1, hg⟩)
  go_upto_region 14 with fail
  try simp only [hw8]
  clear hw8 HB7 q8 f8 q9 f9 q10 f10 hlt
  have t6 : w8.cell? ⟨w.heap.size, 6, none⟩ = some (.int .u8 (pt : Int)) := HB8.out.1.cell_ rfl
  have t2 : w8.cell? ⟨w.heap.size, 2, none⟩ = some (.int .i32 at_) := HB8.out.1.cell_ rfl
  have t9 : w8.cell? ⟨w.heap.size, 9, none⟩ = some (.int .u8 (bs : Int)) := HB8.out.1.cell_ rfl
  go_wp2_with fail
  refine (H6.out _).mono ?_
  rintro e w9 ⟨rfl, hb⟩
  have HB9 := Lib.hid (show Blk w9 w.heap.size 43 #[.int .i32 off, .int .i32 sv, .int .i32 at_, .int .u8 (kd : Int), .int .u8 (st : Int), .int .u8 (fm : Int), .int .u8 (pt : Int), .int .u16 (yr : Int), .int .u8 (mo : Int), .int .u8 (bs : Int), .int .u8 (dk : Int), .int .u8 (dw : Int), .int .u8 (dd : Int)] ∧ Blk w9 (w.heap.size + 1) 31 #[.int .i64 0, .int .i64 0, .int .i64 0, .string ⟨#[]⟩, .string ⟨#[]⟩, .bool false, .int .i64 0, .int .i64 0, .int .i64 0, .int .i64 0, .int .i64 0, .int .i64 0, .int .i64 0] ∧ Blk w9 g 31 #[.int .i64 (off.tmod 604800), .int .i64 ((kd : Int) % 3), .int .i64 0, .string sS, .string sF, .bool true, .int .i64 (1850 + (yr : Int) % 300), .int .i64 (1 + (mo : Int) % 12), .int .i64 m1, .int .i64 m2, .int .i64 m3, .int .i64 0, .int .i64 0] ∧ Below w.heap.size w w9 ∧ w.heap.size + 2 ≤ g from ⟨HB8.out.1.below hb HB8.out.1.lt, HB8.out.2.1.below hb HB8.out.2.1.lt, HB8.out.2.2.1.below hb HB8.out.2.2.1.lt, HB8.out.2.2.2.1.trans (hb.mono HB8.out.2.2.2.1.size), HB8.out.2.2.2.2⟩)
  clear hb HB8 t6 t2 t9
  have q11 : w9.cell? ⟨g, 11, none⟩ = some (.int .i64 0) := HB9.out.2.2.1.cell_ rfl
  have f11 := HB9.out.2.2.1.frozen 11
  have q12 : w9.cell? ⟨g, 12, none⟩ = some (.int .i64 0) := HB9.out.2.2.1.cell_ rfl
  have f12 := HB9.out.2.2.1.frozen 12
  have hlt := HB9.out.2.2.1.lt
  obtain ⟨w10, hw10⟩ : ∃ W, ((w9.setCell ⟨g, 11, none⟩ (.int .i64 (at_.tmod 604800))).setCell ⟨g, 12, none⟩ (.int .i64 ((bs : Int) % 3))) = W := ⟨_, rfl⟩
  have HB10 := Lib.hid (show Blk w10 w.heap.size 43 #[.int .i32 off, .int .i32 sv, .int .i32 at_, .int .u8 (kd : Int), .int .u8 (st : Int), .int .u8 (fm : Int), .int .u8 (pt : Int), .int .u16 (yr : Int), .int .u8 (mo : Int), .int .u8 (bs : Int), .int .u8 (dk : Int), .int .u8 (dw : Int), .int .u8 (dd : Int)] ∧ Blk w10 (w.heap.size + 1) 31 #[.int .i64 0, .int .i64 0, .int .i64 0, .string ⟨#[]⟩, .string ⟨#[]⟩, .bool false, .int .i64 0, .int .i64 0, .int .i64 0, .int .i64 0, .int .i64 0, .int .i64 0, .int .i64 0] ∧ Blk w10 g 31 #[.int .i64 (off.tmod 604800), .int .i64 ((kd : Int) % 3), .int .i64 0, .string sS, .string sF, .bool true, .int .i64 (1850 + (yr : Int) % 300), .int .i64 (1 + (mo : Int) % 12), .int .i64 m1, .int .i64 m2, .int .i64 m3, .int .i64 (at_.tmod 604800), .int .i64 ((bs : Int) % 3)] ∧ Below w.heap.size w w10 ∧ w.heap.size + 2 ≤ g from by
    rw [← hw10]
    have hg := HB9.out.2.2.2.2
    exact ⟨Blk.farSets HB9.out.1 (by omega) [.int .i64 (at_.tmod 604800), .int .i64 ((bs : Int) % 3)] 11, Blk.farSets HB9.out.2.1 (by omega) [.int .i64 (at_.tmod 604800), .int .i64 ((bs : Int) % 3)] 11, Blk.setMid [.int .i64 (off.tmod 604800), .int .i64 ((kd : Int) % 3), .int .i64 0, .string sS, .string sF, .bool true, .int .i64 (1850 + (yr : Int) % 300), .int .i64 (1 + (mo : Int) % 12), .int .i64 m1, .int .i64 m2, .int .i64 m3] [.int .i64 0, .int .i64 0] [.int .i64 (at_.tmod 604800), .int .i64 ((bs : Int) % 3)] [] HB9.out.2.2.1 rfl, below_sets (by omega) [.int .i64 (at_.tmod 604800), .int .i64 ((bs : Int) % 3)] 11 _ HB9.out.2.2.2.1, hg⟩)
  go_upto_region 16 with fail
  try simp only [hw10]
  clear hw10 HB9 q11 f11 q12 f12 hlt
  obtain ⟨C, hCC⟩ : ∃ C : Array Value, #[.int .i64 (off.tmod 604800), .int .i64 ((kd : Int) % 3), .int .i64 0, .string sS, .string sF, .bool true, .int .i64 (1850 + (yr : Int) % 300), .int .i64 (1 + (mo : Int) % 12), .int .i64 m1, .int .i64 m2, .int .i64 m3, .int .i64 (at_.tmod 604800), .int .i64 ((bs : Int) % 3)] = C := ⟨_, rfl⟩
  have Hi := Lib.hid (show (Tryz.prog.info? 31).map (·.size) = some C.size ∧ C.all (·.oneCell') = true ∧ C.size = 13 from hCC ▸ ⟨infoEra, by simp [Value.oneCell'], rfl⟩)
  rw [hCC] at HB10
  have HCC := Lib.hid hCC
  clear hCC
  go_wp2_with (first
    | (refine wpList_load_row rfl 31 (.tmp 3) rfl g rfl 31 C (0, 0) _ HB10.out.2.2.1 Tryz.underlying31 rfl Hi.out.1 ?_)
    | (refine wpList_store_mid rfl 31 (.tmp 2) (.tmp 81) rfl (w.heap.size + 1) 0 C rfl rfl (HB10.out.2.1.there (by rw [Hi.out.2.2]; decide)) Hi.out.1 Hi.out.2.1 ?_))
  exact bodyPost_ret (results_cell_row rfl _ _ (w.heap.size + 1) 31 C (0, 0) _ rfl (HB10.out.2.1.setAll C Hi.out.2.2) Tryz.underlying31 rfl Hi.out.1) rfl ⟨by rw [← HCC.out], below_sets (by omega) _ _ _ HB10.out.2.2.2.1⟩
end Go.Proofs.YtbdmieelokmhiaaGreatDoor
