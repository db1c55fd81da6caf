/-
  The eras of the drafts of layer 14: what Made returns; they can be written.
-/
import Derived.Test.YtmcgbjjcpcgcfaaGreatDoorPCopies
import Derived.Test.YtmcgbjjcpcgcfaaGreatDoorRelAll
import Derived.Test.YtmcgbjjcpcgcfaaGreatDoorMade2
import Derived.Test.YtmcgbjjcpcgcfaaGreatDoorRuleMade
set_option linter.unusedVariables false
set_option linter.unusedSimpArgs false
namespace Go.Proofs.YtmcgbjjcpcgcfaaGreatDoor
open Go.RowKit

def efmtM (n : Nat) : List UInt8 := [[71, 77, 84], [73, 83, 84, 47, 71, 77, 84], [37, 122], [69, 37, 115, 84], [43, 48, 53, 47, 43, 48, 54], [76, 77, 84], [45], [80, 37, 115, 84]].getD (n % 8) []
def etilM (en : Bool) (at_ : Int) (yr mo bs dk dw dd : Nat) : UntilP := if en = true then ⟨true, 1850 + (yr : Int) % 300, 1 + (mo : Int) % 12, dayM dk dw dd, (at_.tmod 604800, (bs : Int) % 3)⟩ else UntilP.none
def eraM (en : Bool) (off sv at_ : Int) (kd st fm yr mo bs dk dw dd : Nat) : EraP := ⟨off.tmod 604800, (kd : Int) % 3, if kd % 3 = 1 then sv.tmod 604800 else 0, if kd % 3 = 2 then nameM st else [], efmtM fm, etilM en at_ yr mo bs dk dw dd⟩
theorem efmt_right (n : Nat) : fmtB (efmtM n) = true := by
  unfold efmtM
  rcases (by omega : n % 8 = 0 ∨ n % 8 = 1 ∨ n % 8 = 2 ∨ n % 8 = 3 ∨ n % 8 = 4 ∨ n % 8 = 5 ∨ n % 8 = 6 ∨ n % 8 = 7) with h | h | h | h | h | h | h | h <;> rw [h] <;> decide +kernel
theorem eset_right (n : Nat) : setB (nameM n) = true := by
  have := nameM_fin ⟨n % 4, Nat.mod_lt _ (by decide)⟩
  simpa [nameM] using this
theorem etil_right (en : Bool) (at_ : Int) (yr mo bs dk dw dd : Nat) : UntilRight (etilM en at_ yr mo bs dk dw dd) := by
  unfold etilM
  cases en with
  | false => exact ⟨fun _ => rfl, (fun h => by cases h), (fun h => by cases h), (fun h => by cases h), (fun h => by cases h)⟩
  | true =>
    rw [if_pos rfl]
    refine ⟨(fun h => by cases h), fun _ => decide_eq_true (by simp only; omega), fun _ => by simp only; omega, fun _ => dayM_right dk dw dd, fun _ => ?_⟩
    have := tmod_bd at_
    simp only [clockOk, Bool.and_eq_true, decide_eq_true_eq]
    omega
theorem eraM_right (en : Bool) (off sv at_ : Int) (kd st fm yr mo bs dk dw dd : Nat) : EraRight (eraM en off sv at_ kd st fm yr mo bs dk dw dd) := by
  refine ⟨tmod_bd off, by simp only [eraM]; omega, fun h => ?_, fun h => ?_, fun h => ?_, fun h => ?_, efmt_right fm, etil_right en at_ yr mo bs dk dw dd⟩
  · simp only [eraM] at h ⊢; rw [if_neg (by omega)]
  · simp only [eraM] at h ⊢; rw [if_pos (by omega)]; exact tmod_bd sv
  · simp only [eraM] at h ⊢; rw [if_pos (by omega)]; exact eset_right st
  · simp only [eraM] at h ⊢; rw [if_neg (by omega)]
theorem eraM_is (en : Bool) (off sv at_ : Int) (kd st fm yr mo bs dk dw dd : Nat) : (eraM en off sv at_ kd st fm yr mo bs dk dw dd).til.is = en := by
  unfold eraM etilM
  cases en <;> rfl

theorem asBl' (l : List UInt8) : ∃ s : ByteArray, l = s.data.toList := ⟨⟨l.toArray⟩, by simp⟩
theorem ba_eq' {l : List UInt8} {a : ByteArray} (h : l = a.data.toList) : (⟨l.toArray⟩ : ByteArray) = a := by subst h; simp
def TabIs (n : Nat) (cs : Array Value) (u : Value) (W : World) : Prop := ∃ g : Nat, u = .slice (some ⟨g, 0, none⟩) n n ∧ Blk W g 9 cs
def PtrIs (i : Nat) (cs : Array Value) (u : Value) (W : World) : Prop := ∃ g : Nat, u = .pointer (some ⟨g, i, none⟩) ∧ Blk W g 9 cs
def NewEra (B : Nat) (u : Value) (W : World) : Prop := ∃ g : Nat, u = .pointer (some ⟨g, 0, none⟩) ∧ B ≤ g ∧ Blk W g 55 #[.int .i64 0, .int .i64 0, .int .i64 0, .string ⟨#[]⟩, .string ⟨#[]⟩, .bool false, .int .i64 0, .int .i64 0, .int .i64 0, .int .i64 0, .int .i64 0, .int .i64 0, .int .i64 0]
theorem TabIs.lasts (n : Nat) (cs : Array Value) : Lasts (TabIs n cs) := fun u w w' hb ⟨g, h1, h2⟩ => ⟨g, h1, h2.below hb h2.lt⟩
theorem PtrIs.lasts (i : Nat) (cs : Array Value) : Lasts (PtrIs i cs) := fun u w w' hb ⟨g, h1, h2⟩ => ⟨g, h1, h2.below hb h2.lt⟩
theorem NewEra.lasts (B : Nat) : Lasts (NewEra B) := fun u w w' hb ⟨g, h1, h0, h2⟩ => ⟨g, h1, h0, h2.below hb h2.lt⟩
def EHeld (w : World) (off sv at_ : Int) (kd st fm yr mo bs dk dw dd : Nat) (W : World) : Prop := Blk W w.heap.size 66 #[.int .i32 off, .int .i32 sv, .int .i32 at_, .int .u8 (kd : Int), .int .u8 (st : Int), .int .u8 (fm : Int), .int .u16 (yr : Int), .int .u8 (mo : Int), .int .u8 (bs : Int), .int .u8 (dk : Int), .int .u8 (dw : Int), .int .u8 (dd : Int)] ∧ Blk W (w.heap.size + 1) 55 #[.int .i64 0, .int .i64 0, .int .i64 0, .string ⟨#[]⟩, .string ⟨#[]⟩, .bool false, .int .i64 0, .int .i64 0, .int .i64 0, .int .i64 0, .int .i64 0, .int .i64 0, .int .i64 0] ∧ Below w.heap.size w W
theorem EHeld.cells {w : World} {off sv at_ : Int} {kd st fm yr mo bs dk dw dd : Nat} {W : World} (h : EHeld w off sv at_ kd st fm yr mo bs dk dw dd W) : W.cell? ⟨w.heap.size, 0, none⟩ = some (.int .i32 off) ∧ W.cell? ⟨w.heap.size, 1, none⟩ = some (.int .i32 sv) ∧ W.cell? ⟨w.heap.size, 2, none⟩ = some (.int .i32 at_) ∧ W.cell? ⟨w.heap.size, 3, none⟩ = some (.int .u8 (kd : Int)) ∧ W.cell? ⟨w.heap.size, 4, none⟩ = some (.int .u8 (st : Int)) ∧ W.cell? ⟨w.heap.size, 5, none⟩ = some (.int .u8 (fm : Int)) ∧ W.cell? ⟨w.heap.size, 6, none⟩ = some (.int .u16 (yr : Int)) ∧ W.cell? ⟨w.heap.size, 7, none⟩ = some (.int .u8 (mo : Int)) ∧ W.cell? ⟨w.heap.size, 8, none⟩ = some (.int .u8 (bs : Int)) ∧ W.cell? ⟨w.heap.size, 9, none⟩ = some (.int .u8 (dk : Int)) ∧ W.cell? ⟨w.heap.size, 10, none⟩ = some (.int .u8 (dw : Int)) ∧ W.cell? ⟨w.heap.size, 11, none⟩ = some (.int .u8 (dd : Int)) :=
  ⟨h.1.cell_ rfl, h.1.cell_ rfl, h.1.cell_ rfl, h.1.cell_ rfl, h.1.cell_ rfl, h.1.cell_ rfl, h.1.cell_ rfl, h.1.cell_ rfl, h.1.cell_ rfl, h.1.cell_ rfl, h.1.cell_ rfl, h.1.cell_ rfl⟩

set_option maxRecDepth 100000 in
set_option maxHeartbeats 2000000 in
theorem emade_0_0 (off sv at_ : Int) (kd st fm yr mo bs dk dw dd : Nat) (m1 m2 m3 : Int) (sF sS : ByteArray) (w : World) (h1 : -2147483648 ≤ off ∧ off ≤ 2147483647) (h2 : -2147483648 ≤ sv ∧ sv ≤ 2147483647) (b1 : kd < 256) (b2 : st < 256) (b3 : fm < 256) (b5 : yr < 65536) (b6 : mo < 256)
    (hk : kd % 3 = 0) (hF : efmtM fm = sF.data.toList) (hS : nameM st = sS.data.toList)
    (H2 : Hid (∀ W, Calls Tryz.prog 67 #[.agg #[.int .u8 (dk : Int), .int .u8 (dw : Int), .int .u8 (dd : Int)]] W fun e w' => e = .returned (.agg #[.int .i64 m1, .int .i64 m2, .int .i64 m3]) ∧ Below W.heap.size W w'))
    (H6 : Hid (∀ W, Calls Tryz.prog 68 #[.int .i32 at_, .int .u8 (bs : Int)] W fun e w' => e = .returned (.agg #[.int .i64 (at_.tmod 604800), .int .i64 ((bs : Int) % 3)]) ∧ Below W.heap.size W w')) :
    Calls Tryz.prog 21 #[.agg #[.int .i32 off, .int .i32 sv, .int .i32 at_, .int .u8 (kd : Int), .int .u8 (st : Int), .int .u8 (fm : Int), .int .u16 (yr : Int), .int .u8 (mo : Int), .int .u8 (bs : Int), .int .u8 (dk : Int), .int .u8 (dw : Int), .int .u8 (dd : Int)], .bool false] w fun e w' => e = .returned (.agg #[.int .i64 (off.tmod 604800), .int .i64 ((kd : Int) % 3), .int .i64 0, .string ⟨#[]⟩, .string sF, .bool false, .int .i64 0, .int .i64 0, .int .i64 0, .int .i64 0, .int .i64 0, .int .i64 0, .int .i64 0]) ∧ Below w.heap.size w w' := by
  obtain ⟨h1a, h1b⟩ := h1
  obtain ⟨h2a, h2b⟩ := h2
  obtain ⟨i, hi⟩ : ∃ i, fm % 8 = i := ⟨_, rfl⟩
  obtain ⟨j, hj⟩ : ∃ j, st % 4 = j := ⟨_, rfl⟩
  have hi8 : i < 8 := by omega
  have hj4 : j < 4 := by omega
  have Hc1 := Lib.hid (show ∀ W g, Blk W g 9 #[.string ⟨#[71, 77, 84]⟩, .string ⟨#[73, 83, 84, 47, 71, 77, 84]⟩, .string ⟨#[37, 122]⟩, .string ⟨#[69, 37, 115, 84]⟩, .string ⟨#[43, 48, 53, 47, 43, 48, 54]⟩, .string ⟨#[76, 77, 84]⟩, .string ⟨#[45]⟩, .string ⟨#[80, 37, 115, 84]⟩] → W.cell? ⟨g, i, none⟩ = some (.string sF) from fun W g h => h.cell_ (by
    rw [show sF = ⟨(efmtM fm).toArray⟩ by rw [hF, ba_list], efmtM, hi]
    rcases (by omega : i = 0 ∨ i = 1 ∨ i = 2 ∨ i = 3 ∨ i = 4 ∨ i = 5 ∨ i = 6 ∨ i = 7) with h | h | h | h | h | h | h | h <;> subst h <;> rfl))
  have Hc2 := Lib.hid (show ∀ W g, Blk W g 9 #[.string ⟨#[82]⟩, .string ⟨#[69, 105, 114, 101]⟩, .string ⟨#[69, 85]⟩, .string ⟨#[67, 45, 69, 117, 114]⟩] → W.cell? ⟨g, j, none⟩ = some (.string sS) from fun W g h => h.cell_ (by
    rw [show sS = ⟨(nameM st).toArray⟩ by rw [hS, ba_list], nameM, hj]
    rcases (by omega : j = 0 ∨ j = 1 ∨ j = 2 ∨ j = 3) with h | h | h | h <;> subst h <;> rfl))
  have htm : ∀ (a : Nat) (b : Int), (a : Int).tmod b = (a : Int) % b := fun a b => Int.tmod_eq_emod_of_nonneg (by omega)
  have hw1 : IntKind.i64.wrap off = off := IntWalk.i64_in _ (by omega)
  have hw2 : IntKind.i64.wrap sv = sv := IntWalk.i64_in _ (by omega)
  have hw3 : IntKind.i64.wrap ((kd : Int) % 3) = (kd : Int) % 3 := IntWalk.i64_in _ (by omega)
  have hiA : (0 : Int) ≤ (i : Int) := by omega
  have hiB : (i : Int) < 8 := by omega
  have hjA : (0 : Int) ≤ (j : Int) := by omega
  have hjB : (j : Int) < 4 := by omega
  have hiI : (fm : Int) % 8 = (i : Int) := by omega
  have hjI : (st : Int) % 4 = (j : Int) := by omega
  have e1 : ((kd : Int) % 3 == 1) = false := by rw [beq_eq_false_iff_ne]; omega
  have e2 : ((kd : Int) % 3 == 2) = false := by rw [beq_eq_false_iff_ne]; omega
  clear hk hF hS hi hj hi8 hj4
  go_enter Tryz.func21, Tryz.ntmps21
  go_upto_region 1 with fail
  have HG : EHeld w off sv at_ kd st fm yr mo bs dk dw dd ((w.alloc (.cells #[.int .i32 off, .int .i32 sv, .int .i32 at_, .int .u8 (kd : Int), .int .u8 (st : Int), .int .u8 (fm : Int), .int .u16 (yr : Int), .int .u8 (mo : Int), .int .u8 (bs : Int), .int .u8 (dk : Int), .int .u8 (dw : Int), .int .u8 (dd : Int)] 66)).alloc (.cells #[.int .i64 0, .int .i64 0, .int .i64 0, .string ⟨#[]⟩, .string ⟨#[]⟩, .bool false, .int .i64 0, .int .i64 0, .int .i64 0, .int .i64 0, .int .i64 0, .int .i64 0, .int .i64 0] 55)) := ⟨(Blk.new' _ _ _ rfl).alloc _, Blk.new' _ _ _ (by simp), by go_grown⟩
  refine wp_region_rels 16 [[], [], [], [], [], [], [], [], [], [], [], [], [8], [12], [], []] [Form.val, Form.val, Form.val, Form.val, Form.val, Form.val, Form.val, Form.val, Form.rel (TabIs 8 #[.string ⟨#[71, 77, 84]⟩, .string ⟨#[73, 83, 84, 47, 71, 77, 84]⟩, .string ⟨#[37, 122]⟩, .string ⟨#[69, 37, 115, 84]⟩, .string ⟨#[43, 48, 53, 47, 43, 48, 54]⟩, .string ⟨#[76, 77, 84]⟩, .string ⟨#[45]⟩, .string ⟨#[80, 37, 115, 84]⟩]), Form.val, Form.val, Form.val, Form.rel (PtrIs i #[.string ⟨#[71, 77, 84]⟩, .string ⟨#[73, 83, 84, 47, 71, 77, 84]⟩, .string ⟨#[37, 122]⟩, .string ⟨#[69, 37, 115, 84]⟩, .string ⟨#[43, 48, 53, 47, 43, 48, 54]⟩, .string ⟨#[76, 77, 84]⟩, .string ⟨#[45]⟩, .string ⟨#[80, 37, 115, 84]⟩]), Form.val, Form.val, Form.rel (NewEra (w.heap.size + 2))] (EHeld w off sv at_ kd st fm yr mo bs dk dw dd) (by kernel_rfl) (by kernel_rfl) rfl rfl (⟨HG.1, HG.2.1, HG.2.2.drew⟩) (fun W W' h hb => ⟨h.1.below hb h.1.lt, h.2.1.below hb h.2.1.lt, h.2.2.trans (hb.mono h.2.2.size)⟩) ⟨TabIs.lasts _ _, PtrIs.lasts _ _, NewEra.lasts _, trivial⟩ ?_
  repeat (first | apply exSpec_rel | apply exSpec_new | apply exSpec_val)
  apply relWalk_ex rfl ?o0 (fun K hK => ?n0)
  case o0 =>
    intro W hC hF
    obtain ⟨q0, q1, q2, q3, q4, q5, q6, q7, q8, q9, q10, q11⟩ := hC.cells
    go_simp
    all_goals exact ⟨Below.refl _ _, rfl⟩
  case' n0 =>
    go_simp
    refine hK _ ?_
    clear hK K
  apply relWalk_ex rfl ?o1 (fun K hK => ?n1)
  case o1 =>
    intro W hC hF
    obtain ⟨q0, q1, q2, q3, q4, q5, q6, q7, q8, q9, q10, q11⟩ := hC.cells
    go_simp
    all_goals exact ⟨Below.refl _ _, rfl⟩
  case' n1 =>
    go_simp
    refine hK _ ?_
    clear hK K
  apply relWalk_ex rfl ?o2 (fun K hK => ?n2)
  case o2 =>
    intro W hC hF
    obtain ⟨q0, q1, q2, q3, q4, q5, q6, q7, q8, q9, q10, q11⟩ := hC.cells
    go_simp
    all_goals exact ⟨Below.refl _ _, rfl⟩
  case' n2 =>
    go_simp
    refine hK _ ?_
    clear hK K
  apply relWalk_ex rfl ?o3 (fun K hK => ?n3)
  case o3 =>
    intro W hC hF
    obtain ⟨q0, q1, q2, q3, q4, q5, q6, q7, q8, q9, q10, q11⟩ := hC.cells
    go_simp
    all_goals exact ⟨Below.refl _ _, rfl⟩
  case' n3 =>
    go_simp
    refine hK _ ?_
    clear hK K
  apply relWalk_ex rfl ?o4 (fun K hK => ?n4)
  case o4 =>
    intro W hC hF
    obtain ⟨q0, q1, q2, q3, q4, q5, q6, q7, q8, q9, q10, q11⟩ := hC.cells
    go_simp
    all_goals exact ⟨Below.refl _ _, rfl⟩
  case' n4 =>
    go_simp
    refine hK _ ?_
    clear hK K
  apply relWalk_ex rfl ?o5 (fun K hK => ?n5)
  case o5 =>
    intro W hC hF
    obtain ⟨q0, q1, q2, q3, q4, q5, q6, q7, q8, q9, q10, q11⟩ := hC.cells
    go_simp
    all_goals exact ⟨Below.refl _ _, rfl⟩
  case' n5 =>
    go_simp
    refine hK _ ?_
    clear hK K
  apply relWalk_ex rfl ?o6 (fun K hK => ?n6)
  case o6 =>
    intro W hC hF
    obtain ⟨q0, q1, q2, q3, q4, q5, q6, q7, q8, q9, q10, q11⟩ := hC.cells
    go_simp
    all_goals exact ⟨Below.refl _ _, rfl⟩
  case' n6 =>
    go_simp
    refine hK _ ?_
    clear hK K
  apply relWalk_ex rfl ?o7 (fun K hK => ?n7)
  case o7 =>
    intro W hC hF
    obtain ⟨q0, q1, q2, q3, q4, q5, q6, q7, q8, q9, q10, q11⟩ := hC.cells
    go_simp
    all_goals exact ⟨Below.refl _ _, rfl⟩
  case' n7 =>
    go_simp
    refine hK _ ?_
    clear hK K
  apply relWalk_rel rfl ?o8 (fun u8 K hK => ?n8)
  case o8 =>
    intro W hC hF
    obtain ⟨q0, q1, q2, q3, q4, q5, q6, q7, q8, q9, q10, q11⟩ := hC.cells
    go_simp
    all_goals exact ⟨by go_grown, _, rfl, Blk.new _ _ _⟩
  case' n8 =>
    go_simp
    refine hK _ ?_
    clear hK K
  apply relWalk_ex rfl ?o9 (fun K hK => ?n9)
  case o9 =>
    intro W hC hF
    obtain ⟨q0, q1, q2, q3, q4, q5, q6, q7, q8, q9, q10, q11⟩ := hC.cells
    go_simp
    all_goals exact ⟨Below.refl _ _, rfl⟩
  case' n9 =>
    go_simp
    refine hK _ ?_
    clear hK K
  apply relWalk_ex rfl ?o10 (fun K hK => ?n10)
  case o10 =>
    intro W hC hF
    obtain ⟨q0, q1, q2, q3, q4, q5, q6, q7, q8, q9, q10, q11⟩ := hC.cells
    go_simp
    all_goals exact ⟨Below.refl _ _, rfl⟩
  case' n10 =>
    go_simp
    refine hK _ ?_
    clear hK K
  apply relWalk_ex rfl ?o11 (fun K hK => ?n11)
  case o11 =>
    intro W hC hF
    obtain ⟨q0, q1, q2, q3, q4, q5, q6, q7, q8, q9, q10, q11⟩ := hC.cells
    go_simp
    all_goals exact ⟨Below.refl _ _, rfl⟩
  case' n11 =>
    go_simp
    refine hK _ ?_
    clear hK K
  apply relWalk_rel rfl ?o12 (fun u12 K hK => ?n12)
  case o12 =>
    intro W hC hF
    obtain ⟨⟨g, rfl, hB⟩, -⟩ := hF
    obtain ⟨q0, q1, q2, q3, q4, q5, q6, q7, q8, q9, q10, q11⟩ := hC.cells
    go_simp
    all_goals exact ⟨by go_grown, g, rfl, hB⟩
  case' n12 =>
    go_simp
    refine hK _ ?_
    clear hK K
  apply relWalk_ex rfl ?o13 (fun K hK => ?n13)
  case o13 =>
    intro W hC hF
    obtain ⟨⟨g, rfl, hB⟩, -⟩ := hF
    have hx : W.cell? ⟨g, i, none⟩ = some (.string sF) := Hc1.out W g hB
    obtain ⟨q0, q1, q2, q3, q4, q5, q6, q7, q8, q9, q10, q11⟩ := hC.cells
    go_simp
    all_goals exact ⟨Below.refl _ _, rfl⟩
  case' n13 =>
    go_simp
    refine hK _ ?_
    clear hK K
  apply relWalk_ex rfl ?o14 (fun K hK => ?n14)
  case o14 =>
    intro W hC hF
    obtain ⟨q0, q1, q2, q3, q4, q5, q6, q7, q8, q9, q10, q11⟩ := hC.cells
    go_simp
    all_goals exact ⟨Below.refl _ _, rfl⟩
  case' n14 =>
    go_simp
    refine hK _ ?_
    clear hK K
  apply relWalk_rel rfl ?o15 (fun u15 K hK => ?n15)
  case o15 =>
    intro W hC hF
    obtain ⟨q0, q1, q2, q3, q4, q5, q6, q7, q8, q9, q10, q11⟩ := hC.cells
    go_simp
    all_goals exact ⟨by go_grown, _, rfl, hC.2.1.lt, Blk.new _ _ _⟩
  case' n15 =>
    go_simp
    refine hK _ ?_
    clear hK K
  apply relWalk_end
  intro W hC hF hU
  obtain ⟨⟨g, rfl, hg, hB⟩, -⟩ := hF
  obtain ⟨hD, hZ, hb⟩ := hC
  refine wpList_store_mid rfl 55 (.tmp 5) (.tmp 20) rfl g 0 #[.int .i64 (off.tmod 604800), .int .i64 ((kd : Int) % 3), .int .i64 0, .string ⟨#[]⟩, .string sF, .bool false, .int .i64 0, .int .i64 0, .int .i64 0, .int .i64 0, .int .i64 0, .int .i64 0, .int .i64 0] rfl rfl (hB.there (Nat.le_refl _)) infoEra (by simp [Value.oneCell']) ?_
  have HB2 := Lib.hid (show Blk (W.setCells g 0 #[.int .i64 (off.tmod 604800), .int .i64 ((kd : Int) % 3), .int .i64 0, .string ⟨#[]⟩, .string sF, .bool false, .int .i64 0, .int .i64 0, .int .i64 0, .int .i64 0, .int .i64 0, .int .i64 0, .int .i64 0].toList) w.heap.size 66 #[.int .i32 off, .int .i32 sv, .int .i32 at_, .int .u8 (kd : Int), .int .u8 (st : Int), .int .u8 (fm : Int), .int .u16 (yr : Int), .int .u8 (mo : Int), .int .u8 (bs : Int), .int .u8 (dk : Int), .int .u8 (dw : Int), .int .u8 (dd : Int)] ∧ Blk (W.setCells g 0 #[.int .i64 (off.tmod 604800), .int .i64 ((kd : Int) % 3), .int .i64 0, .string ⟨#[]⟩, .string sF, .bool false, .int .i64 0, .int .i64 0, .int .i64 0, .int .i64 0, .int .i64 0, .int .i64 0, .int .i64 0].toList) (w.heap.size + 1) 55 #[.int .i64 0, .int .i64 0, .int .i64 0, .string ⟨#[]⟩, .string ⟨#[]⟩, .bool false, .int .i64 0, .int .i64 0, .int .i64 0, .int .i64 0, .int .i64 0, .int .i64 0, .int .i64 0] ∧ Blk (W.setCells g 0 #[.int .i64 (off.tmod 604800), .int .i64 ((kd : Int) % 3), .int .i64 0, .string ⟨#[]⟩, .string sF, .bool false, .int .i64 0, .int .i64 0, .int .i64 0, .int .i64 0, .int .i64 0, .int .i64 0, .int .i64 0].toList) g 55 #[.int .i64 (off.tmod 604800), .int .i64 ((kd : Int) % 3), .int .i64 0, .string ⟨#[]⟩, .string sF, .bool false, .int .i64 0, .int .i64 0, .int .i64 0, .int .i64 0, .int .i64 0, .int .i64 0, .int .i64 0] ∧ Below w.heap.size w (W.setCells g 0 #[.int .i64 (off.tmod 604800), .int .i64 ((kd : Int) % 3), .int .i64 0, .string ⟨#[]⟩, .string sF, .bool false, .int .i64 0, .int .i64 0, .int .i64 0, .int .i64 0, .int .i64 0, .int .i64 0, .int .i64 0].toList) ∧ w.heap.size + 2 ≤ g from ⟨Blk.farSets hD (by omega) _ _, Blk.farSets hZ (by omega) _ _, hB.setAll #[.int .i64 (off.tmod 604800), .int .i64 ((kd : Int) % 3), .int .i64 0, .string ⟨#[]⟩, .string sF, .bool false, .int .i64 0, .int .i64 0, .int .i64 0, .int .i64 0, .int .i64 0, .int .i64 0, .int .i64 0] rfl, below_sets (by omega) _ _ _ hb, hg⟩)
  clear hU hD hZ hb hB hg HG htm hw1 hw3 Hc1 hiA hiB hiI
  generalize W.setCells g 0 #[.int .i64 (off.tmod 604800), .int .i64 ((kd : Int) % 3), .int .i64 0, .string ⟨#[]⟩, .string sF, .bool false, .int .i64 0, .int .i64 0, .int .i64 0, .int .i64 0, .int .i64 0, .int .i64 0, .int .i64 0].toList = w2 at *
  have k1 : w2.cell? ⟨g, 1, none⟩ = some (.int .i64 ((kd : Int) % 3)) := HB2.out.2.2.1.cell_ rfl
  obtain ⟨C, hCC⟩ : ∃ C : Array Value, #[.int .i64 (off.tmod 604800), .int .i64 ((kd : Int) % 3), .int .i64 0, .string ⟨#[]⟩, .string sF, .bool false, .int .i64 0, .int .i64 0, .int .i64 0, .int .i64 0, .int .i64 0, .int .i64 0, .int .i64 0] = C := ⟨_, rfl⟩
  have Hi := Lib.hid (show (Tryz.prog.info? 55).map (·.size) = some C.size ∧ C.all (·.oneCell') = true ∧ C.size = 13 from hCC ▸ ⟨infoEra, by simp [Value.oneCell'], rfl⟩)
  rw [hCC] at HB2
  have HCC := Lib.hid hCC
  clear hCC
  go_wp2_with (first
    | (refine wpList_load_row rfl 55 (.tmp 5) rfl g rfl 55 C (0, 0) _ HB2.out.2.2.1 Tryz.underlying55 rfl Hi.out.1 ?_)
    | (refine wpList_store_mid rfl 55 (.tmp 4) (.tmp 60) rfl (w.heap.size + 1) 0 C rfl rfl (HB2.out.2.1.there (by rw [Hi.out.2.2]; decide)) Hi.out.1 Hi.out.2.1 ?_))
  exact bodyPost_ret (results_cell_row rfl _ _ (w.heap.size + 1) 55 C (0, 0) _ rfl (HB2.out.2.1.setAll C Hi.out.2.2) Tryz.underlying55 rfl Hi.out.1) rfl ⟨by rw [← HCC.out], below_sets (by omega) _ _ _ HB2.out.2.2.2.1⟩

set_option maxRecDepth 100000 in
set_option maxHeartbeats 2000000 in
theorem emade_0_1 (off sv at_ : Int) (kd st fm yr mo bs dk dw dd : Nat) (m1 m2 m3 : Int) (sF sS : ByteArray) (w : World) (h1 : -2147483648 ≤ off ∧ off ≤ 2147483647) (h2 : -2147483648 ≤ sv ∧ sv ≤ 2147483647) (b1 : kd < 256) (b2 : st < 256) (b3 : fm < 256) (b5 : yr < 65536) (b6 : mo < 256)
    (hk : kd % 3 = 0) (hF : efmtM fm = sF.data.toList) (hS : nameM st = sS.data.toList)
    (H2 : Hid (∀ W, Calls Tryz.prog 67 #[.agg #[.int .u8 (dk : Int), .int .u8 (dw : Int), .int .u8 (dd : Int)]] W fun e w' => e = .returned (.agg #[.int .i64 m1, .int .i64 m2, .int .i64 m3]) ∧ Below W.heap.size W w'))
    (H6 : Hid (∀ W, Calls Tryz.prog 68 #[.int .i32 at_, .int .u8 (bs : Int)] W fun e w' => e = .returned (.agg #[.int .i64 (at_.tmod 604800), .int .i64 ((bs : Int) % 3)]) ∧ Below W.heap.size W w')) :
    Calls Tryz.prog 21 #[.agg #[.int .i32 off, .int .i32 sv, .int .i32 at_, .int .u8 (kd : Int), .int .u8 (st : Int), .int .u8 (fm : Int), .int .u16 (yr : Int), .int .u8 (mo : Int), .int .u8 (bs : Int), .int .u8 (dk : Int), .int .u8 (dw : Int), .int .u8 (dd : Int)], .bool true] w fun e w' => e = .returned (.agg #[.int .i64 (off.tmod 604800), .int .i64 ((kd : Int) % 3), .int .i64 0, .string ⟨#[]⟩, .string sF, .bool true, .int .i64 (1850 + (yr : Int) % 300), .int .i64 (1 + (mo : Int) % 12), .int .i64 m1, .int .i64 m2, .int .i64 m3, .int .i64 (at_.tmod 604800), .int .i64 ((bs : Int) % 3)]) ∧ Below w.heap.size w w' := by
  obtain ⟨h1a, h1b⟩ := h1
  obtain ⟨h2a, h2b⟩ := h2
  obtain ⟨i, hi⟩ : ∃ i, fm % 8 = i := ⟨_, rfl⟩
  obtain ⟨j, hj⟩ : ∃ j, st % 4 = j := ⟨_, rfl⟩
  have hi8 : i < 8 := by omega
  have hj4 : j < 4 := by omega
  have Hc1 := Lib.hid (show ∀ W g, Blk W g 9 #[.string ⟨#[71, 77, 84]⟩, .string ⟨#[73, 83, 84, 47, 71, 77, 84]⟩, .string ⟨#[37, 122]⟩, .string ⟨#[69, 37, 115, 84]⟩, .string ⟨#[43, 48, 53, 47, 43, 48, 54]⟩, .string ⟨#[76, 77, 84]⟩, .string ⟨#[45]⟩, .string ⟨#[80, 37, 115, 84]⟩] → W.cell? ⟨g, i, none⟩ = some (.string sF) from fun W g h => h.cell_ (by
    rw [show sF = ⟨(efmtM fm).toArray⟩ by rw [hF, ba_list], efmtM, hi]
    rcases (by omega : i = 0 ∨ i = 1 ∨ i = 2 ∨ i = 3 ∨ i = 4 ∨ i = 5 ∨ i = 6 ∨ i = 7) with h | h | h | h | h | h | h | h <;> subst h <;> rfl))
  have Hc2 := Lib.hid (show ∀ W g, Blk W g 9 #[.string ⟨#[82]⟩, .string ⟨#[69, 105, 114, 101]⟩, .string ⟨#[69, 85]⟩, .string ⟨#[67, 45, 69, 117, 114]⟩] → W.cell? ⟨g, j, none⟩ = some (.string sS) from fun W g h => h.cell_ (by
    rw [show sS = ⟨(nameM st).toArray⟩ by rw [hS, ba_list], nameM, hj]
    rcases (by omega : j = 0 ∨ j = 1 ∨ j = 2 ∨ j = 3) with h | h | h | h <;> subst h <;> rfl))
  have htm : ∀ (a : Nat) (b : Int), (a : Int).tmod b = (a : Int) % b := fun a b => Int.tmod_eq_emod_of_nonneg (by omega)
  have hw1 : IntKind.i64.wrap off = off := IntWalk.i64_in _ (by omega)
  have hw2 : IntKind.i64.wrap sv = sv := IntWalk.i64_in _ (by omega)
  have hw3 : IntKind.i64.wrap ((kd : Int) % 3) = (kd : Int) % 3 := IntWalk.i64_in _ (by omega)
  have hiA : (0 : Int) ≤ (i : Int) := by omega
  have hiB : (i : Int) < 8 := by omega
  have hjA : (0 : Int) ≤ (j : Int) := by omega
  have hjB : (j : Int) < 4 := by omega
  have hiI : (fm : Int) % 8 = (i : Int) := by omega
  have hjI : (st : Int) % 4 = (j : Int) := by omega
  have e1 : ((kd : Int) % 3 == 1) = false := by rw [beq_eq_false_iff_ne]; omega
  have e2 : ((kd : Int) % 3 == 2) = false := by rw [beq_eq_false_iff_ne]; omega
  clear hk hF hS hi hj hi8 hj4
  go_enter Tryz.func21, Tryz.ntmps21
  go_upto_region 1 with fail
  have HG : EHeld w off sv at_ kd st fm yr mo bs dk dw dd ((w.alloc (.cells #[.int .i32 off, .int .i32 sv, .int .i32 at_, .int .u8 (kd : Int), .int .u8 (st : Int), .int .u8 (fm : Int), .int .u16 (yr : Int), .int .u8 (mo : Int), .int .u8 (bs : Int), .int .u8 (dk : Int), .int .u8 (dw : Int), .int .u8 (dd : Int)] 66)).alloc (.cells #[.int .i64 0, .int .i64 0, .int .i64 0, .string ⟨#[]⟩, .string ⟨#[]⟩, .bool false, .int .i64 0, .int .i64 0, .int .i64 0, .int .i64 0, .int .i64 0, .int .i64 0, .int .i64 0] 55)) := ⟨(Blk.new' _ _ _ rfl).alloc _, Blk.new' _ _ _ (by simp), by go_grown⟩
  refine wp_region_rels 16 [[], [], [], [], [], [], [], [], [], [], [], [], [8], [12], [], []] [Form.val, Form.val, Form.val, Form.val, Form.val, Form.val, Form.val, Form.val, Form.rel (TabIs 8 #[.string ⟨#[71, 77, 84]⟩, .string ⟨#[73, 83, 84, 47, 71, 77, 84]⟩, .string ⟨#[37, 122]⟩, .string ⟨#[69, 37, 115, 84]⟩, .string ⟨#[43, 48, 53, 47, 43, 48, 54]⟩, .string ⟨#[76, 77, 84]⟩, .string ⟨#[45]⟩, .string ⟨#[80, 37, 115, 84]⟩]), Form.val, Form.val, Form.val, Form.rel (PtrIs i #[.string ⟨#[71, 77, 84]⟩, .string ⟨#[73, 83, 84, 47, 71, 77, 84]⟩, .string ⟨#[37, 122]⟩, .string ⟨#[69, 37, 115, 84]⟩, .string ⟨#[43, 48, 53, 47, 43, 48, 54]⟩, .string ⟨#[76, 77, 84]⟩, .string ⟨#[45]⟩, .string ⟨#[80, 37, 115, 84]⟩]), Form.val, Form.val, Form.rel (NewEra (w.heap.size + 2))] (EHeld w off sv at_ kd st fm yr mo bs dk dw dd) (by kernel_rfl) (by kernel_rfl) rfl rfl (⟨HG.1, HG.2.1, HG.2.2.drew⟩) (fun W W' h hb => ⟨h.1.below hb h.1.lt, h.2.1.below hb h.2.1.lt, h.2.2.trans (hb.mono h.2.2.size)⟩) ⟨TabIs.lasts _ _, PtrIs.lasts _ _, NewEra.lasts _, trivial⟩ ?_
  repeat (first | apply exSpec_rel | apply exSpec_new | apply exSpec_val)
  apply relWalk_ex rfl ?o0 (fun K hK => ?n0)
  case o0 =>
    intro W hC hF
    obtain ⟨q0, q1, q2, q3, q4, q5, q6, q7, q8, q9, q10, q11⟩ := hC.cells
    go_simp
    all_goals exact ⟨Below.refl _ _, rfl⟩
  case' n0 =>
    go_simp
    refine hK _ ?_
    clear hK K
  apply relWalk_ex rfl ?o1 (fun K hK => ?n1)
  case o1 =>
    intro W hC hF
    obtain ⟨q0, q1, q2, q3, q4, q5, q6, q7, q8, q9, q10, q11⟩ := hC.cells
    go_simp
    all_goals exact ⟨Below.refl _ _, rfl⟩
  case' n1 =>
    go_simp
    refine hK _ ?_
    clear hK K
  apply relWalk_ex rfl ?o2 (fun K hK => ?n2)
  case o2 =>
    intro W hC hF
    obtain ⟨q0, q1, q2, q3, q4, q5, q6, q7, q8, q9, q10, q11⟩ := hC.cells
    go_simp
    all_goals exact ⟨Below.refl _ _, rfl⟩
  case' n2 =>
    go_simp
    refine hK _ ?_
    clear hK K
  apply relWalk_ex rfl ?o3 (fun K hK => ?n3)
  case o3 =>
    intro W hC hF
    obtain ⟨q0, q1, q2, q3, q4, q5, q6, q7, q8, q9, q10, q11⟩ := hC.cells
    go_simp
    all_goals exact ⟨Below.refl _ _, rfl⟩
  case' n3 =>
    go_simp
    refine hK _ ?_
    clear hK K
  apply relWalk_ex rfl ?o4 (fun K hK => ?n4)
  case o4 =>
    intro W hC hF
    obtain ⟨q0, q1, q2, q3, q4, q5, q6, q7, q8, q9, q10, q11⟩ := hC.cells
    go_simp
    all_goals exact ⟨Below.refl _ _, rfl⟩
  case' n4 =>
    go_simp
    refine hK _ ?_
    clear hK K
  apply relWalk_ex rfl ?o5 (fun K hK => ?n5)
  case o5 =>
    intro W hC hF
    obtain ⟨q0, q1, q2, q3, q4, q5, q6, q7, q8, q9, q10, q11⟩ := hC.cells
    go_simp
    all_goals exact ⟨Below.refl _ _, rfl⟩
  case' n5 =>
    go_simp
    refine hK _ ?_
    clear hK K
  apply relWalk_ex rfl ?o6 (fun K hK => ?n6)
  case o6 =>
    intro W hC hF
    obtain ⟨q0, q1, q2, q3, q4, q5, q6, q7, q8, q9, q10, q11⟩ := hC.cells
    go_simp
    all_goals exact ⟨Below.refl _ _, rfl⟩
  case' n6 =>
    go_simp
    refine hK _ ?_
    clear hK K
  apply relWalk_ex rfl ?o7 (fun K hK => ?n7)
  case o7 =>
    intro W hC hF
    obtain ⟨q0, q1, q2, q3, q4, q5, q6, q7, q8, q9, q10, q11⟩ := hC.cells
    go_simp
    all_goals exact ⟨Below.refl _ _, rfl⟩
  case' n7 =>
    go_simp
    refine hK _ ?_
    clear hK K
  apply relWalk_rel rfl ?o8 (fun u8 K hK => ?n8)
  case o8 =>
    intro W hC hF
    obtain ⟨q0, q1, q2, q3, q4, q5, q6, q7, q8, q9, q10, q11⟩ := hC.cells
    go_simp
    all_goals exact ⟨by go_grown, _, rfl, Blk.new _ _ _⟩
  case' n8 =>
    go_simp
    refine hK _ ?_
    clear hK K
  apply relWalk_ex rfl ?o9 (fun K hK => ?n9)
  case o9 =>
    intro W hC hF
    obtain ⟨q0, q1, q2, q3, q4, q5, q6, q7, q8, q9, q10, q11⟩ := hC.cells
    go_simp
    all_goals exact ⟨Below.refl _ _, rfl⟩
  case' n9 =>
    go_simp
    refine hK _ ?_
    clear hK K
  apply relWalk_ex rfl ?o10 (fun K hK => ?n10)
  case o10 =>
    intro W hC hF
    obtain ⟨q0, q1, q2, q3, q4, q5, q6, q7, q8, q9, q10, q11⟩ := hC.cells
    go_simp
    all_goals exact ⟨Below.refl _ _, rfl⟩
  case' n10 =>
    go_simp
    refine hK _ ?_
    clear hK K
  apply relWalk_ex rfl ?o11 (fun K hK => ?n11)
  case o11 =>
    intro W hC hF
    obtain ⟨q0, q1, q2, q3, q4, q5, q6, q7, q8, q9, q10, q11⟩ := hC.cells
    go_simp
    all_goals exact ⟨Below.refl _ _, rfl⟩
  case' n11 =>
    go_simp
    refine hK _ ?_
    clear hK K
  apply relWalk_rel rfl ?o12 (fun u12 K hK => ?n12)
  case o12 =>
    intro W hC hF
    obtain ⟨⟨g, rfl, hB⟩, -⟩ := hF
    obtain ⟨q0, q1, q2, q3, q4, q5, q6, q7, q8, q9, q10, q11⟩ := hC.cells
    go_simp
    all_goals exact ⟨by go_grown, g, rfl, hB⟩
  case' n12 =>
    go_simp
    refine hK _ ?_
    clear hK K
  apply relWalk_ex rfl ?o13 (fun K hK => ?n13)
  case o13 =>
    intro W hC hF
    obtain ⟨⟨g, rfl, hB⟩, -⟩ := hF
    have hx : W.cell? ⟨g, i, none⟩ = some (.string sF) := Hc1.out W g hB
    obtain ⟨q0, q1, q2, q3, q4, q5, q6, q7, q8, q9, q10, q11⟩ := hC.cells
    go_simp
    all_goals exact ⟨Below.refl _ _, rfl⟩
  case' n13 =>
    go_simp
    refine hK _ ?_
    clear hK K
  apply relWalk_ex rfl ?o14 (fun K hK => ?n14)
  case o14 =>
    intro W hC hF
    obtain ⟨q0, q1, q2, q3, q4, q5, q6, q7, q8, q9, q10, q11⟩ := hC.cells
    go_simp
    all_goals exact ⟨Below.refl _ _, rfl⟩
  case' n14 =>
    go_simp
    refine hK _ ?_
    clear hK K
  apply relWalk_rel rfl ?o15 (fun u15 K hK => ?n15)
  case o15 =>
    intro W hC hF
    obtain ⟨q0, q1, q2, q3, q4, q5, q6, q7, q8, q9, q10, q11⟩ := hC.cells
    go_simp
    all_goals exact ⟨by go_grown, _, rfl, hC.2.1.lt, Blk.new _ _ _⟩
  case' n15 =>
    go_simp
    refine hK _ ?_
    clear hK K
  apply relWalk_end
  intro W hC hF hU
  obtain ⟨⟨g, rfl, hg, hB⟩, -⟩ := hF
  obtain ⟨hD, hZ, hb⟩ := hC
  refine wpList_store_mid rfl 55 (.tmp 5) (.tmp 20) rfl g 0 #[.int .i64 (off.tmod 604800), .int .i64 ((kd : Int) % 3), .int .i64 0, .string ⟨#[]⟩, .string sF, .bool false, .int .i64 0, .int .i64 0, .int .i64 0, .int .i64 0, .int .i64 0, .int .i64 0, .int .i64 0] rfl rfl (hB.there (Nat.le_refl _)) infoEra (by simp [Value.oneCell']) ?_
  have HB2 := Lib.hid (show Blk (W.setCells g 0 #[.int .i64 (off.tmod 604800), .int .i64 ((kd : Int) % 3), .int .i64 0, .string ⟨#[]⟩, .string sF, .bool false, .int .i64 0, .int .i64 0, .int .i64 0, .int .i64 0, .int .i64 0, .int .i64 0, .int .i64 0].toList) w.heap.size 66 #[.int .i32 off, .int .i32 sv, .int .i32 at_, .int .u8 (kd : Int), .int .u8 (st : Int), .int .u8 (fm : Int), .int .u16 (yr : Int), .int .u8 (mo : Int), .int .u8 (bs : Int), .int .u8 (dk : Int), .int .u8 (dw : Int), .int .u8 (dd : Int)] ∧ Blk (W.setCells g 0 #[.int .i64 (off.tmod 604800), .int .i64 ((kd : Int) % 3), .int .i64 0, .string ⟨#[]⟩, .string sF, .bool false, .int .i64 0, .int .i64 0, .int .i64 0, .int .i64 0, .int .i64 0, .int .i64 0, .int .i64 0].toList) (w.heap.size + 1) 55 #[.int .i64 0, .int .i64 0, .int .i64 0, .string ⟨#[]⟩, .string ⟨#[]⟩, .bool false, .int .i64 0, .int .i64 0, .int .i64 0, .int .i64 0, .int .i64 0, .int .i64 0, .int .i64 0] ∧ Blk (W.setCells g 0 #[.int .i64 (off.tmod 604800), .int .i64 ((kd : Int) % 3), .int .i64 0, .string ⟨#[]⟩, .string sF, .bool false, .int .i64 0, .int .i64 0, .int .i64 0, .int .i64 0, .int .i64 0, .int .i64 0, .int .i64 0].toList) g 55 #[.int .i64 (off.tmod 604800), .int .i64 ((kd : Int) % 3), .int .i64 0, .string ⟨#[]⟩, .string sF, .bool false, .int .i64 0, .int .i64 0, .int .i64 0, .int .i64 0, .int .i64 0, .int .i64 0, .int .i64 0] ∧ Below w.heap.size w (W.setCells g 0 #[.int .i64 (off.tmod 604800), .int .i64 ((kd : Int) % 3), .int .i64 0, .string ⟨#[]⟩, .string sF, .bool false, .int .i64 0, .int .i64 0, .int .i64 0, .int .i64 0, .int .i64 0, .int .i64 0, .int .i64 0].toList) ∧ w.heap.size + 2 ≤ g from ⟨Blk.farSets hD (by omega) _ _, Blk.farSets hZ (by omega) _ _, hB.setAll #[.int .i64 (off.tmod 604800), .int .i64 ((kd : Int) % 3), .int .i64 0, .string ⟨#[]⟩, .string sF, .bool false, .int .i64 0, .int .i64 0, .int .i64 0, .int .i64 0, .int .i64 0, .int .i64 0, .int .i64 0] rfl, below_sets (by omega) _ _ _ hb, hg⟩)
  clear hU hD hZ hb hB hg HG htm hw1 hw3 Hc1 hiA hiB hiI
  generalize W.setCells g 0 #[.int .i64 (off.tmod 604800), .int .i64 ((kd : Int) % 3), .int .i64 0, .string ⟨#[]⟩, .string sF, .bool false, .int .i64 0, .int .i64 0, .int .i64 0, .int .i64 0, .int .i64 0, .int .i64 0, .int .i64 0].toList = w2 at *
  have k1 : w2.cell? ⟨g, 1, none⟩ = some (.int .i64 ((kd : Int) % 3)) := HB2.out.2.2.1.cell_ rfl
  go_upto_region 8 with fail
  refine wp_region_rels 20 [[], [], [], [], [], [], [], [], [], [], [], [], [], [], [], [], [], [], [], []] [Form.val, Form.val, Form.val, Form.val, Form.val, Form.val, Form.val, Form.val, Form.val, Form.val, Form.val, Form.val, Form.val, Form.val, Form.val, Form.val, Form.val, Form.val, Form.val, Form.val] (fun W => Blk W w.heap.size 66 #[.int .i32 off, .int .i32 sv, .int .i32 at_, .int .u8 (kd : Int), .int .u8 (st : Int), .int .u8 (fm : Int), .int .u16 (yr : Int), .int .u8 (mo : Int), .int .u8 (bs : Int), .int .u8 (dk : Int), .int .u8 (dw : Int), .int .u8 (dd : Int)] ∧ Blk W (w.heap.size + 1) 55 #[.int .i64 0, .int .i64 0, .int .i64 0, .string ⟨#[]⟩, .string ⟨#[]⟩, .bool false, .int .i64 0, .int .i64 0, .int .i64 0, .int .i64 0, .int .i64 0, .int .i64 0, .int .i64 0] ∧ Blk W g 55 #[.int .i64 (off.tmod 604800), .int .i64 ((kd : Int) % 3), .int .i64 0, .string ⟨#[]⟩, .string sF, .bool false, .int .i64 0, .int .i64 0, .int .i64 0, .int .i64 0, .int .i64 0, .int .i64 0, .int .i64 0] ∧ Below w.heap.size w W ∧ w.heap.size + 2 ≤ g) (by kernel_rfl) (by kernel_rfl) rfl rfl (⟨HB2.out.1, HB2.out.2.1, HB2.out.2.2.1, HB2.out.2.2.2.1.drew, HB2.out.2.2.2.2⟩) (fun W W2 h hb => ⟨h.1.below hb h.1.lt, h.2.1.below hb h.2.1.lt, h.2.2.1.below hb h.2.2.1.lt, h.2.2.2.1.trans (hb.mono h.2.2.2.1.size), h.2.2.2.2⟩) trivial ?_
  repeat (first | apply exSpec_rel | apply exSpec_new | apply exSpec_val)
  apply relWalk_ex rfl ?oy0 (fun K hK => ?ny0)
  case oy0 =>
    intro W hC hF
    have z2 : W.cell? ⟨w.heap.size, 2, none⟩ = some (.int .i32 at_) := hC.1.cell_ rfl
    have z6 : W.cell? ⟨w.heap.size, 6, none⟩ = some (.int .u16 (yr : Int)) := hC.1.cell_ rfl
    have z7 : W.cell? ⟨w.heap.size, 7, none⟩ = some (.int .u8 (mo : Int)) := hC.1.cell_ rfl
    have z8 : W.cell? ⟨w.heap.size, 8, none⟩ = some (.int .u8 (bs : Int)) := hC.1.cell_ rfl
    have hgl := hC.2.2.1.lt
    go_simp
    all_goals exact ⟨Below.refl _ _, rfl⟩
  case' ny0 =>
    go_simp
    refine hK _ ?_
    clear hK K
  apply relWalk_ex rfl ?oy1 (fun K hK => ?ny1)
  case oy1 =>
    intro W hC hF
    have z2 : W.cell? ⟨w.heap.size, 2, none⟩ = some (.int .i32 at_) := hC.1.cell_ rfl
    have z6 : W.cell? ⟨w.heap.size, 6, none⟩ = some (.int .u16 (yr : Int)) := hC.1.cell_ rfl
    have z7 : W.cell? ⟨w.heap.size, 7, none⟩ = some (.int .u8 (mo : Int)) := hC.1.cell_ rfl
    have z8 : W.cell? ⟨w.heap.size, 8, none⟩ = some (.int .u8 (bs : Int)) := hC.1.cell_ rfl
    have hgl := hC.2.2.1.lt
    go_simp
    all_goals exact ⟨Below.refl _ _, rfl⟩
  case' ny1 =>
    go_simp
    refine hK _ ?_
    clear hK K
  apply relWalk_ex rfl ?oy2 (fun K hK => ?ny2)
  case oy2 =>
    intro W hC hF
    have z2 : W.cell? ⟨w.heap.size, 2, none⟩ = some (.int .i32 at_) := hC.1.cell_ rfl
    have z6 : W.cell? ⟨w.heap.size, 6, none⟩ = some (.int .u16 (yr : Int)) := hC.1.cell_ rfl
    have z7 : W.cell? ⟨w.heap.size, 7, none⟩ = some (.int .u8 (mo : Int)) := hC.1.cell_ rfl
    have z8 : W.cell? ⟨w.heap.size, 8, none⟩ = some (.int .u8 (bs : Int)) := hC.1.cell_ rfl
    have hgl := hC.2.2.1.lt
    go_simp
    all_goals exact ⟨Below.refl _ _, rfl⟩
  case' ny2 =>
    go_simp
    refine hK _ ?_
    clear hK K
  apply relWalk_ex rfl ?oy3 (fun K hK => ?ny3)
  case oy3 =>
    intro W hC hF
    have z2 : W.cell? ⟨w.heap.size, 2, none⟩ = some (.int .i32 at_) := hC.1.cell_ rfl
    have z6 : W.cell? ⟨w.heap.size, 6, none⟩ = some (.int .u16 (yr : Int)) := hC.1.cell_ rfl
    have z7 : W.cell? ⟨w.heap.size, 7, none⟩ = some (.int .u8 (mo : Int)) := hC.1.cell_ rfl
    have z8 : W.cell? ⟨w.heap.size, 8, none⟩ = some (.int .u8 (bs : Int)) := hC.1.cell_ rfl
    have hgl := hC.2.2.1.lt
    go_simp
    all_goals exact ⟨Below.refl _ _, rfl⟩
  case' ny3 =>
    go_simp
    refine hK _ ?_
    clear hK K
  apply relWalk_ex rfl ?oy4 (fun K hK => ?ny4)
  case oy4 =>
    intro W hC hF
    have z2 : W.cell? ⟨w.heap.size, 2, none⟩ = some (.int .i32 at_) := hC.1.cell_ rfl
    have z6 : W.cell? ⟨w.heap.size, 6, none⟩ = some (.int .u16 (yr : Int)) := hC.1.cell_ rfl
    have z7 : W.cell? ⟨w.heap.size, 7, none⟩ = some (.int .u8 (mo : Int)) := hC.1.cell_ rfl
    have z8 : W.cell? ⟨w.heap.size, 8, none⟩ = some (.int .u8 (bs : Int)) := hC.1.cell_ rfl
    have hgl := hC.2.2.1.lt
    go_simp
    all_goals exact ⟨Below.refl _ _, rfl⟩
  case' ny4 =>
    go_simp
    refine hK _ ?_
    clear hK K
  apply relWalk_ex rfl ?oy5 (fun K hK => ?ny5)
  case oy5 =>
    intro W hC hF
    have z2 : W.cell? ⟨w.heap.size, 2, none⟩ = some (.int .i32 at_) := hC.1.cell_ rfl
    have z6 : W.cell? ⟨w.heap.size, 6, none⟩ = some (.int .u16 (yr : Int)) := hC.1.cell_ rfl
    have z7 : W.cell? ⟨w.heap.size, 7, none⟩ = some (.int .u8 (mo : Int)) := hC.1.cell_ rfl
    have z8 : W.cell? ⟨w.heap.size, 8, none⟩ = some (.int .u8 (bs : Int)) := hC.1.cell_ rfl
    have hgl := hC.2.2.1.lt
    go_simp
    all_goals exact ⟨Below.refl _ _, rfl⟩
  case' ny5 =>
    go_simp
    refine hK _ ?_
    clear hK K
  apply relWalk_ex rfl ?oy6 (fun K hK => ?ny6)
  case oy6 =>
    intro W hC hF
    have z2 : W.cell? ⟨w.heap.size, 2, none⟩ = some (.int .i32 at_) := hC.1.cell_ rfl
    have z6 : W.cell? ⟨w.heap.size, 6, none⟩ = some (.int .u16 (yr : Int)) := hC.1.cell_ rfl
    have z7 : W.cell? ⟨w.heap.size, 7, none⟩ = some (.int .u8 (mo : Int)) := hC.1.cell_ rfl
    have z8 : W.cell? ⟨w.heap.size, 8, none⟩ = some (.int .u8 (bs : Int)) := hC.1.cell_ rfl
    have hgl := hC.2.2.1.lt
    go_simp
    all_goals exact ⟨Below.refl _ _, rfl⟩
  case' ny6 =>
    go_simp
    refine hK _ ?_
    clear hK K
  apply relWalk_ex rfl ?oy7 (fun K hK => ?ny7)
  case oy7 =>
    intro W hC hF
    have z2 : W.cell? ⟨w.heap.size, 2, none⟩ = some (.int .i32 at_) := hC.1.cell_ rfl
    have z6 : W.cell? ⟨w.heap.size, 6, none⟩ = some (.int .u16 (yr : Int)) := hC.1.cell_ rfl
    have z7 : W.cell? ⟨w.heap.size, 7, none⟩ = some (.int .u8 (mo : Int)) := hC.1.cell_ rfl
    have z8 : W.cell? ⟨w.heap.size, 8, none⟩ = some (.int .u8 (bs : Int)) := hC.1.cell_ rfl
    have hgl := hC.2.2.1.lt
    go_simp
    all_goals exact ⟨Below.refl _ _, rfl⟩
  case' ny7 =>
    go_simp
    refine hK _ ?_
    clear hK K
  apply relWalk_ex rfl ?oy8 (fun K hK => ?ny8)
  case oy8 =>
    intro W hC hF
    have z2 : W.cell? ⟨w.heap.size, 2, none⟩ = some (.int .i32 at_) := hC.1.cell_ rfl
    have z6 : W.cell? ⟨w.heap.size, 6, none⟩ = some (.int .u16 (yr : Int)) := hC.1.cell_ rfl
    have z7 : W.cell? ⟨w.heap.size, 7, none⟩ = some (.int .u8 (mo : Int)) := hC.1.cell_ rfl
    have z8 : W.cell? ⟨w.heap.size, 8, none⟩ = some (.int .u8 (bs : Int)) := hC.1.cell_ rfl
    have hgl := hC.2.2.1.lt
    go_simp
    all_goals exact ⟨Below.refl _ _, rfl⟩
  case' ny8 =>
    go_simp
    refine hK _ ?_
    clear hK K
  apply relWalk_ex rfl ?oy9 (fun K hK => ?ny9)
  case oy9 =>
    intro W hC hF
    have z2 : W.cell? ⟨w.heap.size, 2, none⟩ = some (.int .i32 at_) := hC.1.cell_ rfl
    have z6 : W.cell? ⟨w.heap.size, 6, none⟩ = some (.int .u16 (yr : Int)) := hC.1.cell_ rfl
    have z7 : W.cell? ⟨w.heap.size, 7, none⟩ = some (.int .u8 (mo : Int)) := hC.1.cell_ rfl
    have z8 : W.cell? ⟨w.heap.size, 8, none⟩ = some (.int .u8 (bs : Int)) := hC.1.cell_ rfl
    have hgl := hC.2.2.1.lt
    go_simp
    all_goals exact ⟨Below.refl _ _, rfl⟩
  case' ny9 =>
    go_simp
    refine hK _ ?_
    clear hK K
  apply relWalk_ex rfl ?oy10 (fun K hK => ?ny10)
  case oy10 =>
    intro W hC hF
    have z2 : W.cell? ⟨w.heap.size, 2, none⟩ = some (.int .i32 at_) := hC.1.cell_ rfl
    have z6 : W.cell? ⟨w.heap.size, 6, none⟩ = some (.int .u16 (yr : Int)) := hC.1.cell_ rfl
    have z7 : W.cell? ⟨w.heap.size, 7, none⟩ = some (.int .u8 (mo : Int)) := hC.1.cell_ rfl
    have z8 : W.cell? ⟨w.heap.size, 8, none⟩ = some (.int .u8 (bs : Int)) := hC.1.cell_ rfl
    have hgl := hC.2.2.1.lt
    go_simp
    all_goals exact ⟨Below.refl _ _, rfl⟩
  case' ny10 =>
    go_simp
    refine hK _ ?_
    clear hK K
  apply relWalk_ex rfl ?oy11 (fun K hK => ?ny11)
  case oy11 =>
    intro W hC hF
    exact relAt_load_arr 64 (.tmp 50) rfl w.heap.size 9 rfl #[.int .u8 (dk : Int), .int .u8 (dw : Int), .int .u8 (dd : Int)] _ (fun q v hv => by match q, hv with | 0, hv => cases hv; exact hC.1.cell_ rfl | 1, hv => cases hv; exact hC.1.cell_ rfl | 2, hv => cases hv; exact hC.1.cell_ rfl | q + 3, hv => simp at hv) Tryz.underlying64 rfl (by kernel_rfl)
  case' ny11 =>
    go_simp
    refine hK _ ?_
    clear hK K
  apply relWalk_ex rfl ?oy12 (fun K hK => ?ny12)
  case oy12 =>
    intro W hC hF
    have z2 : W.cell? ⟨w.heap.size, 2, none⟩ = some (.int .i32 at_) := hC.1.cell_ rfl
    have z6 : W.cell? ⟨w.heap.size, 6, none⟩ = some (.int .u16 (yr : Int)) := hC.1.cell_ rfl
    have z7 : W.cell? ⟨w.heap.size, 7, none⟩ = some (.int .u8 (mo : Int)) := hC.1.cell_ rfl
    have z8 : W.cell? ⟨w.heap.size, 8, none⟩ = some (.int .u8 (bs : Int)) := hC.1.cell_ rfl
    have hgl := hC.2.2.1.lt
    go_simp
    all_goals exact (H2.out W).mono fun e w2 ⟨he, hb⟩ => ⟨he, hb⟩
  case' ny12 =>
    go_simp
    refine hK _ ?_
    clear hK K
  apply relWalk_ex rfl ?oy13 (fun K hK => ?ny13)
  case oy13 =>
    intro W hC hF
    have z2 : W.cell? ⟨w.heap.size, 2, none⟩ = some (.int .i32 at_) := hC.1.cell_ rfl
    have z6 : W.cell? ⟨w.heap.size, 6, none⟩ = some (.int .u16 (yr : Int)) := hC.1.cell_ rfl
    have z7 : W.cell? ⟨w.heap.size, 7, none⟩ = some (.int .u8 (mo : Int)) := hC.1.cell_ rfl
    have z8 : W.cell? ⟨w.heap.size, 8, none⟩ = some (.int .u8 (bs : Int)) := hC.1.cell_ rfl
    have hgl := hC.2.2.1.lt
    go_simp
    all_goals exact ⟨Below.refl _ _, rfl⟩
  case' ny13 =>
    go_simp
    refine hK _ ?_
    clear hK K
  apply relWalk_ex rfl ?oy14 (fun K hK => ?ny14)
  case oy14 =>
    intro W hC hF
    have z2 : W.cell? ⟨w.heap.size, 2, none⟩ = some (.int .i32 at_) := hC.1.cell_ rfl
    have z6 : W.cell? ⟨w.heap.size, 6, none⟩ = some (.int .u16 (yr : Int)) := hC.1.cell_ rfl
    have z7 : W.cell? ⟨w.heap.size, 7, none⟩ = some (.int .u8 (mo : Int)) := hC.1.cell_ rfl
    have z8 : W.cell? ⟨w.heap.size, 8, none⟩ = some (.int .u8 (bs : Int)) := hC.1.cell_ rfl
    have hgl := hC.2.2.1.lt
    go_simp
    all_goals exact ⟨Below.refl _ _, rfl⟩
  case' ny14 =>
    go_simp
    refine hK _ ?_
    clear hK K
  apply relWalk_ex rfl ?oy15 (fun K hK => ?ny15)
  case oy15 =>
    intro W hC hF
    have z2 : W.cell? ⟨w.heap.size, 2, none⟩ = some (.int .i32 at_) := hC.1.cell_ rfl
    have z6 : W.cell? ⟨w.heap.size, 6, none⟩ = some (.int .u16 (yr : Int)) := hC.1.cell_ rfl
    have z7 : W.cell? ⟨w.heap.size, 7, none⟩ = some (.int .u8 (mo : Int)) := hC.1.cell_ rfl
    have z8 : W.cell? ⟨w.heap.size, 8, none⟩ = some (.int .u8 (bs : Int)) := hC.1.cell_ rfl
    have hgl := hC.2.2.1.lt
    go_simp
    all_goals exact ⟨Below.refl _ _, rfl⟩
  case' ny15 =>
    go_simp
    refine hK _ ?_
    clear hK K
  apply relWalk_ex rfl ?oy16 (fun K hK => ?ny16)
  case oy16 =>
    intro W hC hF
    have z2 : W.cell? ⟨w.heap.size, 2, none⟩ = some (.int .i32 at_) := hC.1.cell_ rfl
    have z6 : W.cell? ⟨w.heap.size, 6, none⟩ = some (.int .u16 (yr : Int)) := hC.1.cell_ rfl
    have z7 : W.cell? ⟨w.heap.size, 7, none⟩ = some (.int .u8 (mo : Int)) := hC.1.cell_ rfl
    have z8 : W.cell? ⟨w.heap.size, 8, none⟩ = some (.int .u8 (bs : Int)) := hC.1.cell_ rfl
    have hgl := hC.2.2.1.lt
    go_simp
    all_goals exact ⟨Below.refl _ _, rfl⟩
  case' ny16 =>
    go_simp
    refine hK _ ?_
    clear hK K
  apply relWalk_ex rfl ?oy17 (fun K hK => ?ny17)
  case oy17 =>
    intro W hC hF
    have z2 : W.cell? ⟨w.heap.size, 2, none⟩ = some (.int .i32 at_) := hC.1.cell_ rfl
    have z6 : W.cell? ⟨w.heap.size, 6, none⟩ = some (.int .u16 (yr : Int)) := hC.1.cell_ rfl
    have z7 : W.cell? ⟨w.heap.size, 7, none⟩ = some (.int .u8 (mo : Int)) := hC.1.cell_ rfl
    have z8 : W.cell? ⟨w.heap.size, 8, none⟩ = some (.int .u8 (bs : Int)) := hC.1.cell_ rfl
    have hgl := hC.2.2.1.lt
    go_simp
    all_goals exact (H6.out W).mono fun e w2 ⟨he, hb⟩ => ⟨he, hb⟩
  case' ny17 =>
    go_simp
    refine hK _ ?_
    clear hK K
  apply relWalk_ex rfl ?oy18 (fun K hK => ?ny18)
  case oy18 =>
    intro W hC hF
    have z2 : W.cell? ⟨w.heap.size, 2, none⟩ = some (.int .i32 at_) := hC.1.cell_ rfl
    have z6 : W.cell? ⟨w.heap.size, 6, none⟩ = some (.int .u16 (yr : Int)) := hC.1.cell_ rfl
    have z7 : W.cell? ⟨w.heap.size, 7, none⟩ = some (.int .u8 (mo : Int)) := hC.1.cell_ rfl
    have z8 : W.cell? ⟨w.heap.size, 8, none⟩ = some (.int .u8 (bs : Int)) := hC.1.cell_ rfl
    have hgl := hC.2.2.1.lt
    go_simp
    all_goals exact ⟨Below.refl _ _, rfl⟩
  case' ny18 =>
    go_simp
    refine hK _ ?_
    clear hK K
  apply relWalk_ex rfl ?oy19 (fun K hK => ?ny19)
  case oy19 =>
    intro W hC hF
    have z2 : W.cell? ⟨w.heap.size, 2, none⟩ = some (.int .i32 at_) := hC.1.cell_ rfl
    have z6 : W.cell? ⟨w.heap.size, 6, none⟩ = some (.int .u16 (yr : Int)) := hC.1.cell_ rfl
    have z7 : W.cell? ⟨w.heap.size, 7, none⟩ = some (.int .u8 (mo : Int)) := hC.1.cell_ rfl
    have z8 : W.cell? ⟨w.heap.size, 8, none⟩ = some (.int .u8 (bs : Int)) := hC.1.cell_ rfl
    have hgl := hC.2.2.1.lt
    go_simp
    all_goals exact ⟨Below.refl _ _, rfl⟩
  case' ny19 =>
    go_simp
    refine hK _ ?_
    clear hK K
  apply relWalk_end
  intro W hC hF hU
  have HC := Lib.hid hC
  clear hC hU hF HB2
  have q5 : W.cell? ⟨g, 5, none⟩ = some (.bool false) := HC.out.2.2.1.cell_ rfl
  have f5 := HC.out.2.2.1.frozen 5
  have q6 : W.cell? ⟨g, 6, none⟩ = some (.int .i64 0) := HC.out.2.2.1.cell_ rfl
  have f6 := HC.out.2.2.1.frozen 6
  have q7 : W.cell? ⟨g, 7, none⟩ = some (.int .i64 0) := HC.out.2.2.1.cell_ rfl
  have f7 := HC.out.2.2.1.frozen 7
  have q8 : W.cell? ⟨g, 8, none⟩ = some (.int .i64 0) := HC.out.2.2.1.cell_ rfl
  have f8 := HC.out.2.2.1.frozen 8
  have q9 : W.cell? ⟨g, 9, none⟩ = some (.int .i64 0) := HC.out.2.2.1.cell_ rfl
  have f9 := HC.out.2.2.1.frozen 9
  have q10 : W.cell? ⟨g, 10, none⟩ = some (.int .i64 0) := HC.out.2.2.1.cell_ rfl
  have f10 := HC.out.2.2.1.frozen 10
  have q11 : W.cell? ⟨g, 11, none⟩ = some (.int .i64 0) := HC.out.2.2.1.cell_ rfl
  have f11 := HC.out.2.2.1.frozen 11
  have q12 : W.cell? ⟨g, 12, none⟩ = some (.int .i64 0) := HC.out.2.2.1.cell_ rfl
  have f12 := HC.out.2.2.1.frozen 12
  have hlt := HC.out.2.2.1.lt
  obtain ⟨w5, hw5⟩ : ∃ Wz, ((((((((W.setCell ⟨g, 5, none⟩ (.bool true)).setCell ⟨g, 6, none⟩ (.int .i64 (1850 + (yr : Int) % 300))).setCell ⟨g, 7, none⟩ (.int .i64 (1 + (mo : Int) % 12))).setCell ⟨g, 8, none⟩ (.int .i64 m1)).setCell ⟨g, 9, none⟩ (.int .i64 m2)).setCell ⟨g, 10, none⟩ (.int .i64 m3)).setCell ⟨g, 11, none⟩ (.int .i64 (at_.tmod 604800))).setCell ⟨g, 12, none⟩ (.int .i64 ((bs : Int) % 3))) = Wz := ⟨_, rfl⟩
  have HB5 := Lib.hid (show Blk w5 w.heap.size 66 #[.int .i32 off, .int .i32 sv, .int .i32 at_, .int .u8 (kd : Int), .int .u8 (st : Int), .int .u8 (fm : Int), .int .u16 (yr : Int), .int .u8 (mo : Int), .int .u8 (bs : Int), .int .u8 (dk : Int), .int .u8 (dw : Int), .int .u8 (dd : Int)] ∧ Blk w5 (w.heap.size + 1) 55 #[.int .i64 0, .int .i64 0, .int .i64 0, .string ⟨#[]⟩, .string ⟨#[]⟩, .bool false, .int .i64 0, .int .i64 0, .int .i64 0, .int .i64 0, .int .i64 0, .int .i64 0, .int .i64 0] ∧ Blk w5 g 55 #[.int .i64 (off.tmod 604800), .int .i64 ((kd : Int) % 3), .int .i64 0, .string ⟨#[]⟩, .string sF, .bool true, .int .i64 (1850 + (yr : Int) % 300), .int .i64 (1 + (mo : Int) % 12), .int .i64 m1, .int .i64 m2, .int .i64 m3, .int .i64 (at_.tmod 604800), .int .i64 ((bs : Int) % 3)] ∧ Below w.heap.size w w5 ∧ w.heap.size + 2 ≤ g from by
    rw [← hw5]
    have hg := HC.out.2.2.2.2
    exact ⟨Blk.farSets HC.out.1 (by omega) [.bool true, .int .i64 (1850 + (yr : Int) % 300), .int .i64 (1 + (mo : Int) % 12), .int .i64 m1, .int .i64 m2, .int .i64 m3, .int .i64 (at_.tmod 604800), .int .i64 ((bs : Int) % 3)] 5, Blk.farSets HC.out.2.1 (by omega) [.bool true, .int .i64 (1850 + (yr : Int) % 300), .int .i64 (1 + (mo : Int) % 12), .int .i64 m1, .int .i64 m2, .int .i64 m3, .int .i64 (at_.tmod 604800), .int .i64 ((bs : Int) % 3)] 5, Blk.setMid [.int .i64 (off.tmod 604800), .int .i64 ((kd : Int) % 3), .int .i64 0, .string ⟨#[]⟩, .string sF] [.bool false, .int .i64 0, .int .i64 0, .int .i64 0, .int .i64 0, .int .i64 0, .int .i64 0, .int .i64 0] [.bool true, .int .i64 (1850 + (yr : Int) % 300), .int .i64 (1 + (mo : Int) % 12), .int .i64 m1, .int .i64 m2, .int .i64 m3, .int .i64 (at_.tmod 604800), .int .i64 ((bs : Int) % 3)] [] HC.out.2.2.1 rfl, below_sets (by omega) [.bool true, .int .i64 (1850 + (yr : Int) % 300), .int .i64 (1 + (mo : Int) % 12), .int .i64 m1, .int .i64 m2, .int .i64 m3, .int .i64 (at_.tmod 604800), .int .i64 ((bs : Int) % 3)] 5 _ HC.out.2.2.2.1, hg⟩)
  go_upto_region 9 with fail
  try simp only [hw5]
  clear hw5 HC q5 f5 q6 f6 q7 f7 q8 f8 q9 f9 q10 f10 q11 f11 q12 f12 hlt
  obtain ⟨C, hCC⟩ : ∃ C : Array Value, #[.int .i64 (off.tmod 604800), .int .i64 ((kd : Int) % 3), .int .i64 0, .string ⟨#[]⟩, .string sF, .bool true, .int .i64 (1850 + (yr : Int) % 300), .int .i64 (1 + (mo : Int) % 12), .int .i64 m1, .int .i64 m2, .int .i64 m3, .int .i64 (at_.tmod 604800), .int .i64 ((bs : Int) % 3)] = C := ⟨_, rfl⟩
  have Hi := Lib.hid (show (Tryz.prog.info? 55).map (·.size) = some C.size ∧ C.all (·.oneCell') = true ∧ C.size = 13 from hCC ▸ ⟨infoEra, by simp [Value.oneCell'], rfl⟩)
  rw [hCC] at HB5
  have HCC := Lib.hid hCC
  clear hCC
  go_wp2_with (first
    | (refine wpList_load_row rfl 55 (.tmp 5) rfl g rfl 55 C (0, 0) _ HB5.out.2.2.1 Tryz.underlying55 rfl Hi.out.1 ?_)
    | (refine wpList_store_mid rfl 55 (.tmp 4) (.tmp 60) rfl (w.heap.size + 1) 0 C rfl rfl (HB5.out.2.1.there (by rw [Hi.out.2.2]; decide)) Hi.out.1 Hi.out.2.1 ?_))
  exact bodyPost_ret (results_cell_row rfl _ _ (w.heap.size + 1) 55 C (0, 0) _ rfl (HB5.out.2.1.setAll C Hi.out.2.2) Tryz.underlying55 rfl Hi.out.1) rfl ⟨by rw [← HCC.out], below_sets (by omega) _ _ _ HB5.out.2.2.2.1⟩

set_option maxRecDepth 100000 in
set_option maxHeartbeats 2000000 in
theorem emade_1_0 (off sv at_ : Int) (kd st fm yr mo bs dk dw dd : Nat) (m1 m2 m3 : Int) (sF sS : ByteArray) (w : World) (h1 : -2147483648 ≤ off ∧ off ≤ 2147483647) (h2 : -2147483648 ≤ sv ∧ sv ≤ 2147483647) (b1 : kd < 256) (b2 : st < 256) (b3 : fm < 256) (b5 : yr < 65536) (b6 : mo < 256)
    (hk : kd % 3 = 1) (hF : efmtM fm = sF.data.toList) (hS : nameM st = sS.data.toList)
    (H2 : Hid (∀ W, Calls Tryz.prog 67 #[.agg #[.int .u8 (dk : Int), .int .u8 (dw : Int), .int .u8 (dd : Int)]] W fun e w' => e = .returned (.agg #[.int .i64 m1, .int .i64 m2, .int .i64 m3]) ∧ Below W.heap.size W w'))
    (H6 : Hid (∀ W, Calls Tryz.prog 68 #[.int .i32 at_, .int .u8 (bs : Int)] W fun e w' => e = .returned (.agg #[.int .i64 (at_.tmod 604800), .int .i64 ((bs : Int) % 3)]) ∧ Below W.heap.size W w')) :
    Calls Tryz.prog 21 #[.agg #[.int .i32 off, .int .i32 sv, .int .i32 at_, .int .u8 (kd : Int), .int .u8 (st : Int), .int .u8 (fm : Int), .int .u16 (yr : Int), .int .u8 (mo : Int), .int .u8 (bs : Int), .int .u8 (dk : Int), .int .u8 (dw : Int), .int .u8 (dd : Int)], .bool false] w fun e w' => e = .returned (.agg #[.int .i64 (off.tmod 604800), .int .i64 ((kd : Int) % 3), .int .i64 (sv.tmod 604800), .string ⟨#[]⟩, .string sF, .bool false, .int .i64 0, .int .i64 0, .int .i64 0, .int .i64 0, .int .i64 0, .int .i64 0, .int .i64 0]) ∧ Below w.heap.size w w' := by
  obtain ⟨h1a, h1b⟩ := h1
  obtain ⟨h2a, h2b⟩ := h2
  obtain ⟨i, hi⟩ : ∃ i, fm % 8 = i := ⟨_, rfl⟩
  obtain ⟨j, hj⟩ : ∃ j, st % 4 = j := ⟨_, rfl⟩
  have hi8 : i < 8 := by omega
  have hj4 : j < 4 := by omega
  have Hc1 := Lib.hid (show ∀ W g, Blk W g 9 #[.string ⟨#[71, 77, 84]⟩, .string ⟨#[73, 83, 84, 47, 71, 77, 84]⟩, .string ⟨#[37, 122]⟩, .string ⟨#[69, 37, 115, 84]⟩, .string ⟨#[43, 48, 53, 47, 43, 48, 54]⟩, .string ⟨#[76, 77, 84]⟩, .string ⟨#[45]⟩, .string ⟨#[80, 37, 115, 84]⟩] → W.cell? ⟨g, i, none⟩ = some (.string sF) from fun W g h => h.cell_ (by
    rw [show sF = ⟨(efmtM fm).toArray⟩ by rw [hF, ba_list], efmtM, hi]
    rcases (by omega : i = 0 ∨ i = 1 ∨ i = 2 ∨ i = 3 ∨ i = 4 ∨ i = 5 ∨ i = 6 ∨ i = 7) with h | h | h | h | h | h | h | h <;> subst h <;> rfl))
  have Hc2 := Lib.hid (show ∀ W g, Blk W g 9 #[.string ⟨#[82]⟩, .string ⟨#[69, 105, 114, 101]⟩, .string ⟨#[69, 85]⟩, .string ⟨#[67, 45, 69, 117, 114]⟩] → W.cell? ⟨g, j, none⟩ = some (.string sS) from fun W g h => h.cell_ (by
    rw [show sS = ⟨(nameM st).toArray⟩ by rw [hS, ba_list], nameM, hj]
    rcases (by omega : j = 0 ∨ j = 1 ∨ j = 2 ∨ j = 3) with h | h | h | h <;> subst h <;> rfl))
  have htm : ∀ (a : Nat) (b : Int), (a : Int).tmod b = (a : Int) % b := fun a b => Int.tmod_eq_emod_of_nonneg (by omega)
  have hw1 : IntKind.i64.wrap off = off := IntWalk.i64_in _ (by omega)
  have hw2 : IntKind.i64.wrap sv = sv := IntWalk.i64_in _ (by omega)
  have hw3 : IntKind.i64.wrap ((kd : Int) % 3) = (kd : Int) % 3 := IntWalk.i64_in _ (by omega)
  have hiA : (0 : Int) ≤ (i : Int) := by omega
  have hiB : (i : Int) < 8 := by omega
  have hjA : (0 : Int) ≤ (j : Int) := by omega
  have hjB : (j : Int) < 4 := by omega
  have hiI : (fm : Int) % 8 = (i : Int) := by omega
  have hjI : (st : Int) % 4 = (j : Int) := by omega
  have e1 : ((kd : Int) % 3 == 1) = true := by rw [beq_iff_eq]; omega
  have e2 : ((kd : Int) % 3 == 2) = false := by rw [beq_eq_false_iff_ne]; omega
  clear hk hF hS hi hj hi8 hj4
  go_enter Tryz.func21, Tryz.ntmps21
  go_upto_region 1 with fail
  have HG : EHeld w off sv at_ kd st fm yr mo bs dk dw dd ((w.alloc (.cells #[.int .i32 off, .int .i32 sv, .int .i32 at_, .int .u8 (kd : Int), .int .u8 (st : Int), .int .u8 (fm : Int), .int .u16 (yr : Int), .int .u8 (mo : Int), .int .u8 (bs : Int), .int .u8 (dk : Int), .int .u8 (dw : Int), .int .u8 (dd : Int)] 66)).alloc (.cells #[.int .i64 0, .int .i64 0, .int .i64 0, .string ⟨#[]⟩, .string ⟨#[]⟩, .bool false, .int .i64 0, .int .i64 0, .int .i64 0, .int .i64 0, .int .i64 0, .int .i64 0, .int .i64 0] 55)) := ⟨(Blk.new' _ _ _ rfl).alloc _, Blk.new' _ _ _ (by simp), by go_grown⟩
  refine wp_region_rels 16 [[], [], [], [], [], [], [], [], [], [], [], [], [8], [12], [], []] [Form.val, Form.val, Form.val, Form.val, Form.val, Form.val, Form.val, Form.val, Form.rel (TabIs 8 #[.string ⟨#[71, 77, 84]⟩, .string ⟨#[73, 83, 84, 47, 71, 77, 84]⟩, .string ⟨#[37, 122]⟩, .string ⟨#[69, 37, 115, 84]⟩, .string ⟨#[43, 48, 53, 47, 43, 48, 54]⟩, .string ⟨#[76, 77, 84]⟩, .string ⟨#[45]⟩, .string ⟨#[80, 37, 115, 84]⟩]), Form.val, Form.val, Form.val, Form.rel (PtrIs i #[.string ⟨#[71, 77, 84]⟩, .string ⟨#[73, 83, 84, 47, 71, 77, 84]⟩, .string ⟨#[37, 122]⟩, .string ⟨#[69, 37, 115, 84]⟩, .string ⟨#[43, 48, 53, 47, 43, 48, 54]⟩, .string ⟨#[76, 77, 84]⟩, .string ⟨#[45]⟩, .string ⟨#[80, 37, 115, 84]⟩]), Form.val, Form.val, Form.rel (NewEra (w.heap.size + 2))] (EHeld w off sv at_ kd st fm yr mo bs dk dw dd) (by kernel_rfl) (by kernel_rfl) rfl rfl (⟨HG.1, HG.2.1, HG.2.2.drew⟩) (fun W W' h hb => ⟨h.1.below hb h.1.lt, h.2.1.below hb h.2.1.lt, h.2.2.trans (hb.mono h.2.2.size)⟩) ⟨TabIs.lasts _ _, PtrIs.lasts _ _, NewEra.lasts _, trivial⟩ ?_
  repeat (first | apply exSpec_rel | apply exSpec_new | apply exSpec_val)
  apply relWalk_ex rfl ?o0 (fun K hK => ?n0)
  case o0 =>
    intro W hC hF
    obtain ⟨q0, q1, q2, q3, q4, q5, q6, q7, q8, q9, q10, q11⟩ := hC.cells
    go_simp
    all_goals exact ⟨Below.refl _ _, rfl⟩
  case' n0 =>
    go_simp
    refine hK _ ?_
    clear hK K
  apply relWalk_ex rfl ?o1 (fun K hK => ?n1)
  case o1 =>
    intro W hC hF
    obtain ⟨q0, q1, q2, q3, q4, q5, q6, q7, q8, q9, q10, q11⟩ := hC.cells
    go_simp
    all_goals exact ⟨Below.refl _ _, rfl⟩
  case' n1 =>
    go_simp
    refine hK _ ?_
    clear hK K
  apply relWalk_ex rfl ?o2 (fun K hK => ?n2)
  case o2 =>
    intro W hC hF
    obtain ⟨q0, q1, q2, q3, q4, q5, q6, q7, q8, q9, q10, q11⟩ := hC.cells
    go_simp
    all_goals exact ⟨Below.refl _ _, rfl⟩
  case' n2 =>
    go_simp
    refine hK _ ?_
    clear hK K
  apply relWalk_ex rfl ?o3 (fun K hK => ?n3)
  case o3 =>
    intro W hC hF
    obtain ⟨q0, q1, q2, q3, q4, q5, q6, q7, q8, q9, q10, q11⟩ := hC.cells
    go_simp
    all_goals exact ⟨Below.refl _ _, rfl⟩
  case' n3 =>
    go_simp
    refine hK _ ?_
    clear hK K
  apply relWalk_ex rfl ?o4 (fun K hK => ?n4)
  case o4 =>
    intro W hC hF
    obtain ⟨q0, q1, q2, q3, q4, q5, q6, q7, q8, q9, q10, q11⟩ := hC.cells
    go_simp
    all_goals exact ⟨Below.refl _ _, rfl⟩
  case' n4 =>
    go_simp
    refine hK _ ?_
    clear hK K
  apply relWalk_ex rfl ?o5 (fun K hK => ?n5)
  case o5 =>
    intro W hC hF
    obtain ⟨q0, q1, q2, q3, q4, q5, q6, q7, q8, q9, q10, q11⟩ := hC.cells
    go_simp
    all_goals exact ⟨Below.refl _ _, rfl⟩
  case' n5 =>
    go_simp
    refine hK _ ?_
    clear hK K
  apply relWalk_ex rfl ?o6 (fun K hK => ?n6)
  case o6 =>
    intro W hC hF
    obtain ⟨q0, q1, q2, q3, q4, q5, q6, q7, q8, q9, q10, q11⟩ := hC.cells
    go_simp
    all_goals exact ⟨Below.refl _ _, rfl⟩
  case' n6 =>
    go_simp
    refine hK _ ?_
    clear hK K
  apply relWalk_ex rfl ?o7 (fun K hK => ?n7)
  case o7 =>
    intro W hC hF
    obtain ⟨q0, q1, q2, q3, q4, q5, q6, q7, q8, q9, q10, q11⟩ := hC.cells
    go_simp
    all_goals exact ⟨Below.refl _ _, rfl⟩
  case' n7 =>
    go_simp
    refine hK _ ?_
    clear hK K
  apply relWalk_rel rfl ?o8 (fun u8 K hK => ?n8)
  case o8 =>
    intro W hC hF
    obtain ⟨q0, q1, q2, q3, q4, q5, q6, q7, q8, q9, q10, q11⟩ := hC.cells
    go_simp
    all_goals exact ⟨by go_grown, _, rfl, Blk.new _ _ _⟩
  case' n8 =>
    go_simp
    refine hK _ ?_
    clear hK K
  apply relWalk_ex rfl ?o9 (fun K hK => ?n9)
  case o9 =>
    intro W hC hF
    obtain ⟨q0, q1, q2, q3, q4, q5, q6, q7, q8, q9, q10, q11⟩ := hC.cells
    go_simp
    all_goals exact ⟨Below.refl _ _, rfl⟩
  case' n9 =>
    go_simp
    refine hK _ ?_
    clear hK K
  apply relWalk_ex rfl ?o10 (fun K hK => ?n10)
  case o10 =>
    intro W hC hF
    obtain ⟨q0, q1, q2, q3, q4, q5, q6, q7, q8, q9, q10, q11⟩ := hC.cells
    go_simp
    all_goals exact ⟨Below.refl _ _, rfl⟩
  case' n10 =>
    go_simp
    refine hK _ ?_
    clear hK K
  apply relWalk_ex rfl ?o11 (fun K hK => ?n11)
  case o11 =>
    intro W hC hF
    obtain ⟨q0, q1, q2, q3, q4, q5, q6, q7, q8, q9, q10, q11⟩ := hC.cells
    go_simp
    all_goals exact ⟨Below.refl _ _, rfl⟩
  case' n11 =>
    go_simp
    refine hK _ ?_
    clear hK K
  apply relWalk_rel rfl ?o12 (fun u12 K hK => ?n12)
  case o12 =>
    intro W hC hF
    obtain ⟨⟨g, rfl, hB⟩, -⟩ := hF
    obtain ⟨q0, q1, q2, q3, q4, q5, q6, q7, q8, q9, q10, q11⟩ := hC.cells
    go_simp
    all_goals exact ⟨by go_grown, g, rfl, hB⟩
  case' n12 =>
    go_simp
    refine hK _ ?_
    clear hK K
  apply relWalk_ex rfl ?o13 (fun K hK => ?n13)
  case o13 =>
    intro W hC hF
    obtain ⟨⟨g, rfl, hB⟩, -⟩ := hF
    have hx : W.cell? ⟨g, i, none⟩ = some (.string sF) := Hc1.out W g hB
    obtain ⟨q0, q1, q2, q3, q4, q5, q6, q7, q8, q9, q10, q11⟩ := hC.cells
    go_simp
    all_goals exact ⟨Below.refl _ _, rfl⟩
  case' n13 =>
    go_simp
    refine hK _ ?_
    clear hK K
  apply relWalk_ex rfl ?o14 (fun K hK => ?n14)
  case o14 =>
    intro W hC hF
    obtain ⟨q0, q1, q2, q3, q4, q5, q6, q7, q8, q9, q10, q11⟩ := hC.cells
    go_simp
    all_goals exact ⟨Below.refl _ _, rfl⟩
  case' n14 =>
    go_simp
    refine hK _ ?_
    clear hK K
  apply relWalk_rel rfl ?o15 (fun u15 K hK => ?n15)
  case o15 =>
    intro W hC hF
    obtain ⟨q0, q1, q2, q3, q4, q5, q6, q7, q8, q9, q10, q11⟩ := hC.cells
    go_simp
    all_goals exact ⟨by go_grown, _, rfl, hC.2.1.lt, Blk.new _ _ _⟩
  case' n15 =>
    go_simp
    refine hK _ ?_
    clear hK K
  apply relWalk_end
  intro W hC hF hU
  obtain ⟨⟨g, rfl, hg, hB⟩, -⟩ := hF
  obtain ⟨hD, hZ, hb⟩ := hC
  refine wpList_store_mid rfl 55 (.tmp 5) (.tmp 20) rfl g 0 #[.int .i64 (off.tmod 604800), .int .i64 ((kd : Int) % 3), .int .i64 0, .string ⟨#[]⟩, .string sF, .bool false, .int .i64 0, .int .i64 0, .int .i64 0, .int .i64 0, .int .i64 0, .int .i64 0, .int .i64 0] rfl rfl (hB.there (Nat.le_refl _)) infoEra (by simp [Value.oneCell']) ?_
  have HB2 := Lib.hid (show Blk (W.setCells g 0 #[.int .i64 (off.tmod 604800), .int .i64 ((kd : Int) % 3), .int .i64 0, .string ⟨#[]⟩, .string sF, .bool false, .int .i64 0, .int .i64 0, .int .i64 0, .int .i64 0, .int .i64 0, .int .i64 0, .int .i64 0].toList) w.heap.size 66 #[.int .i32 off, .int .i32 sv, .int .i32 at_, .int .u8 (kd : Int), .int .u8 (st : Int), .int .u8 (fm : Int), .int .u16 (yr : Int), .int .u8 (mo : Int), .int .u8 (bs : Int), .int .u8 (dk : Int), .int .u8 (dw : Int), .int .u8 (dd : Int)] ∧ Blk (W.setCells g 0 #[.int .i64 (off.tmod 604800), .int .i64 ((kd : Int) % 3), .int .i64 0, .string ⟨#[]⟩, .string sF, .bool false, .int .i64 0, .int .i64 0, .int .i64 0, .int .i64 0, .int .i64 0, .int .i64 0, .int .i64 0].toList) (w.heap.size + 1) 55 #[.int .i64 0, .int .i64 0, .int .i64 0, .string ⟨#[]⟩, .string ⟨#[]⟩, .bool false, .int .i64 0, .int .i64 0, .int .i64 0, .int .i64 0, .int .i64 0, .int .i64 0, .int .i64 0] ∧ Blk (W.setCells g 0 #[.int .i64 (off.tmod 604800), .int .i64 ((kd : Int) % 3), .int .i64 0, .string ⟨#[]⟩, .string sF, .bool false, .int .i64 0, .int .i64 0, .int .i64 0, .int .i64 0, .int .i64 0, .int .i64 0, .int .i64 0].toList) g 55 #[.int .i64 (off.tmod 604800), .int .i64 ((kd : Int) % 3), .int .i64 0, .string ⟨#[]⟩, .string sF, .bool false, .int .i64 0, .int .i64 0, .int .i64 0, .int .i64 0, .int .i64 0, .int .i64 0, .int .i64 0] ∧ Below w.heap.size w (W.setCells g 0 #[.int .i64 (off.tmod 604800), .int .i64 ((kd : Int) % 3), .int .i64 0, .string ⟨#[]⟩, .string sF, .bool false, .int .i64 0, .int .i64 0, .int .i64 0, .int .i64 0, .int .i64 0, .int .i64 0, .int .i64 0].toList) ∧ w.heap.size + 2 ≤ g from ⟨Blk.farSets hD (by omega) _ _, Blk.farSets hZ (by omega) _ _, hB.setAll #[.int .i64 (off.tmod 604800), .int .i64 ((kd : Int) % 3), .int .i64 0, .string ⟨#[]⟩, .string sF, .bool false, .int .i64 0, .int .i64 0, .int .i64 0, .int .i64 0, .int .i64 0, .int .i64 0, .int .i64 0] rfl, below_sets (by omega) _ _ _ hb, hg⟩)
  clear hU hD hZ hb hB hg HG htm hw1 hw3 Hc1 hiA hiB hiI
  generalize W.setCells g 0 #[.int .i64 (off.tmod 604800), .int .i64 ((kd : Int) % 3), .int .i64 0, .string ⟨#[]⟩, .string sF, .bool false, .int .i64 0, .int .i64 0, .int .i64 0, .int .i64 0, .int .i64 0, .int .i64 0, .int .i64 0].toList = w2 at *
  have k1 : w2.cell? ⟨g, 1, none⟩ = some (.int .i64 ((kd : Int) % 3)) := HB2.out.2.2.1.cell_ rfl
  have t1 : w2.cell? ⟨w.heap.size, 1, none⟩ = some (.int .i32 sv) := HB2.out.1.cell_ rfl
  have q2 : w2.cell? ⟨g, 2, none⟩ = some (.int .i64 0) := HB2.out.2.2.1.cell_ rfl
  have f2 := HB2.out.2.2.1.frozen 2
  have hlt := HB2.out.2.2.1.lt
  obtain ⟨w3, hw3⟩ : ∃ Wz, (w2.setCell ⟨g, 2, none⟩ (.int .i64 (sv.tmod 604800))) = Wz := ⟨_, rfl⟩
  have HB3 := Lib.hid (show Blk w3 w.heap.size 66 #[.int .i32 off, .int .i32 sv, .int .i32 at_, .int .u8 (kd : Int), .int .u8 (st : Int), .int .u8 (fm : Int), .int .u16 (yr : Int), .int .u8 (mo : Int), .int .u8 (bs : Int), .int .u8 (dk : Int), .int .u8 (dw : Int), .int .u8 (dd : Int)] ∧ Blk w3 (w.heap.size + 1) 55 #[.int .i64 0, .int .i64 0, .int .i64 0, .string ⟨#[]⟩, .string ⟨#[]⟩, .bool false, .int .i64 0, .int .i64 0, .int .i64 0, .int .i64 0, .int .i64 0, .int .i64 0, .int .i64 0] ∧ Blk w3 g 55 #[.int .i64 (off.tmod 604800), .int .i64 ((kd : Int) % 3), .int .i64 (sv.tmod 604800), .string ⟨#[]⟩, .string sF, .bool false, .int .i64 0, .int .i64 0, .int .i64 0, .int .i64 0, .int .i64 0, .int .i64 0, .int .i64 0] ∧ Below w.heap.size w w3 ∧ w.heap.size + 2 ≤ g from by
    rw [← hw3]
    have hg := HB2.out.2.2.2.2
    exact ⟨Blk.farSets HB2.out.1 (by omega) [.int .i64 (sv.tmod 604800)] 2, Blk.farSets HB2.out.2.1 (by omega) [.int .i64 (sv.tmod 604800)] 2, Blk.setMid [.int .i64 (off.tmod 604800), .int .i64 ((kd : Int) % 3)] [.int .i64 0] [.int .i64 (sv.tmod 604800)] [.string ⟨#[]⟩, .string sF, .bool false, .int .i64 0, .int .i64 0, .int .i64 0, .int .i64 0, .int .i64 0, .int .i64 0, .int .i64 0] HB2.out.2.2.1 rfl, below_sets (by omega) [.int .i64 (sv.tmod 604800)] 2 _ HB2.out.2.2.2.1, hg⟩)
  go_upto_region 7 with fail
  try simp only [hw3]
  clear hw3 HB2 q2 f2 hlt t1 k1
  obtain ⟨C, hCC⟩ : ∃ C : Array Value, #[.int .i64 (off.tmod 604800), .int .i64 ((kd : Int) % 3), .int .i64 (sv.tmod 604800), .string ⟨#[]⟩, .string sF, .bool false, .int .i64 0, .int .i64 0, .int .i64 0, .int .i64 0, .int .i64 0, .int .i64 0, .int .i64 0] = C := ⟨_, rfl⟩
  have Hi := Lib.hid (show (Tryz.prog.info? 55).map (·.size) = some C.size ∧ C.all (·.oneCell') = true ∧ C.size = 13 from hCC ▸ ⟨infoEra, by simp [Value.oneCell'], rfl⟩)
  rw [hCC] at HB3
  have HCC := Lib.hid hCC
  clear hCC
  go_wp2_with (first
    | (refine wpList_load_row rfl 55 (.tmp 5) rfl g rfl 55 C (0, 0) _ HB3.out.2.2.1 Tryz.underlying55 rfl Hi.out.1 ?_)
    | (refine wpList_store_mid rfl 55 (.tmp 4) (.tmp 60) rfl (w.heap.size + 1) 0 C rfl rfl (HB3.out.2.1.there (by rw [Hi.out.2.2]; decide)) Hi.out.1 Hi.out.2.1 ?_))
  exact bodyPost_ret (results_cell_row rfl _ _ (w.heap.size + 1) 55 C (0, 0) _ rfl (HB3.out.2.1.setAll C Hi.out.2.2) Tryz.underlying55 rfl Hi.out.1) rfl ⟨by rw [← HCC.out], below_sets (by omega) _ _ _ HB3.out.2.2.2.1⟩

set_option maxRecDepth 100000 in
set_option maxHeartbeats 2000000 in
theorem emade_1_1 (off sv at_ : Int) (kd st fm yr mo bs dk dw dd : Nat) (m1 m2 m3 : Int) (sF sS : ByteArray) (w : World) (h1 : -2147483648 ≤ off ∧ off ≤ 2147483647) (h2 : -2147483648 ≤ sv ∧ sv ≤ 2147483647) (b1 : kd < 256) (b2 : st < 256) (b3 : fm < 256) (b5 : yr < 65536) (b6 : mo < 256)
    (hk : kd % 3 = 1) (hF : efmtM fm = sF.data.toList) (hS : nameM st = sS.data.toList)
    (H2 : Hid (∀ W, Calls Tryz.prog 67 #[.agg #[.int .u8 (dk : Int), .int .u8 (dw : Int), .int .u8 (dd : Int)]] W fun e w' => e = .returned (.agg #[.int .i64 m1, .int .i64 m2, .int .i64 m3]) ∧ Below W.heap.size W w'))
    (H6 : Hid (∀ W, Calls Tryz.prog 68 #[.int .i32 at_, .int .u8 (bs : Int)] W fun e w' => e = .returned (.agg #[.int .i64 (at_.tmod 604800), .int .i64 ((bs : Int) % 3)]) ∧ Below W.heap.size W w')) :
    Calls Tryz.prog 21 #[.agg #[.int .i32 off, .int .i32 sv, .int .i32 at_, .int .u8 (kd : Int), .int .u8 (st : Int), .int .u8 (fm : Int), .int .u16 (yr : Int), .int .u8 (mo : Int), .int .u8 (bs : Int), .int .u8 (dk : Int), .int .u8 (dw : Int), .int .u8 (dd : Int)], .bool true] w fun e w' => e = .returned (.agg #[.int .i64 (off.tmod 604800), .int .i64 ((kd : Int) % 3), .int .i64 (sv.tmod 604800), .string ⟨#[]⟩, .string sF, .bool true, .int .i64 (1850 + (yr : Int) % 300), .int .i64 (1 + (mo : Int) % 12), .int .i64 m1, .int .i64 m2, .int .i64 m3, .int .i64 (at_.tmod 604800), .int .i64 ((bs : Int) % 3)]) ∧ Below w.heap.size w w' := by
  obtain ⟨h1a, h1b⟩ := h1
  obtain ⟨h2a, h2b⟩ := h2
  obtain ⟨i, hi⟩ : ∃ i, fm % 8 = i := ⟨_, rfl⟩
  obtain ⟨j, hj⟩ : ∃ j, st % 4 = j := ⟨_, rfl⟩
  have hi8 : i < 8 := by omega
  have hj4 : j < 4 := by omega
  have Hc1 := Lib.hid (show ∀ W g, Blk W g 9 #[.string ⟨#[71, 77, 84]⟩, .string ⟨#[73, 83, 84, 47, 71, 77, 84]⟩, .string ⟨#[37, 122]⟩, .string ⟨#[69, 37, 115, 84]⟩, .string ⟨#[43, 48, 53, 47, 43, 48, 54]⟩, .string ⟨#[76, 77, 84]⟩, .string ⟨#[45]⟩, .string ⟨#[80, 37, 115, 84]⟩] → W.cell? ⟨g, i, none⟩ = some (.string sF) from fun W g h => h.cell_ (by
    rw [show sF = ⟨(efmtM fm).toArray⟩ by rw [hF, ba_list], efmtM, hi]
    rcases (by omega : i = 0 ∨ i = 1 ∨ i = 2 ∨ i = 3 ∨ i = 4 ∨ i = 5 ∨ i = 6 ∨ i = 7) with h | h | h | h | h | h | h | h <;> subst h <;> rfl))
  have Hc2 := Lib.hid (show ∀ W g, Blk W g 9 #[.string ⟨#[82]⟩, .string ⟨#[69, 105, 114, 101]⟩, .string ⟨#[69, 85]⟩, .string ⟨#[67, 45, 69, 117, 114]⟩] → W.cell? ⟨g, j, none⟩ = some (.string sS) from fun W g h => h.cell_ (by
    rw [show sS = ⟨(nameM st).toArray⟩ by rw [hS, ba_list], nameM, hj]
    rcases (by omega : j = 0 ∨ j = 1 ∨ j = 2 ∨ j = 3) with h | h | h | h <;> subst h <;> rfl))
  have htm : ∀ (a : Nat) (b : Int), (a : Int).tmod b = (a : Int) % b := fun a b => Int.tmod_eq_emod_of_nonneg (by omega)
  have hw1 : IntKind.i64.wrap off = off := IntWalk.i64_in _ (by omega)
  have hw2 : IntKind.i64.wrap sv = sv := IntWalk.i64_in _ (by omega)
  have hw3 : IntKind.i64.wrap ((kd : Int) % 3) = (kd : Int) % 3 := IntWalk.i64_in _ (by omega)
  have hiA : (0 : Int) ≤ (i : Int) := by omega
  have hiB : (i : Int) < 8 := by omega
  have hjA : (0 : Int) ≤ (j : Int) := by omega
  have hjB : (j : Int) < 4 := by omega
  have hiI : (fm : Int) % 8 = (i : Int) := by omega
  have hjI : (st : Int) % 4 = (j : Int) := by omega
  have e1 : ((kd : Int) % 3 == 1) = true := by rw [beq_iff_eq]; omega
  have e2 : ((kd : Int) % 3 == 2) = false := by rw [beq_eq_false_iff_ne]; omega
  clear hk hF hS hi hj hi8 hj4
  go_enter Tryz.func21, Tryz.ntmps21
  go_upto_region 1 with fail
  have HG : EHeld w off sv at_ kd st fm yr mo bs dk dw dd ((w.alloc (.cells #[.int .i32 off, .int .i32 sv, .int .i32 at_, .int .u8 (kd : Int), .int .u8 (st : Int), .int .u8 (fm : Int), .int .u16 (yr : Int), .int .u8 (mo : Int), .int .u8 (bs : Int), .int .u8 (dk : Int), .int .u8 (dw : Int), .int .u8 (dd : Int)] 66)).alloc (.cells #[.int .i64 0, .int .i64 0, .int .i64 0, .string ⟨#[]⟩, .string ⟨#[]⟩, .bool false, .int .i64 0, .int .i64 0, .int .i64 0, .int .i64 0, .int .i64 0, .int .i64 0, .int .i64 0] 55)) := ⟨(Blk.new' _ _ _ rfl).alloc _, Blk.new' _ _ _ (by simp), by go_grown⟩
  refine wp_region_rels 16 [[], [], [], [], [], [], [], [], [], [], [], [], [8], [12], [], []] [Form.val, Form.val, Form.val, Form.val, Form.val, Form.val, Form.val, Form.val, Form.rel (TabIs 8 #[.string ⟨#[71, 77, 84]⟩, .string ⟨#[73, 83, 84, 47, 71, 77, 84]⟩, .string ⟨#[37, 122]⟩, .string ⟨#[69, 37, 115, 84]⟩, .string ⟨#[43, 48, 53, 47, 43, 48, 54]⟩, .string ⟨#[76, 77, 84]⟩, .string ⟨#[45]⟩, .string ⟨#[80, 37, 115, 84]⟩]), Form.val, Form.val, Form.val, Form.rel (PtrIs i #[.string ⟨#[71, 77, 84]⟩, .string ⟨#[73, 83, 84, 47, 71, 77, 84]⟩, .string ⟨#[37, 122]⟩, .string ⟨#[69, 37, 115, 84]⟩, .string ⟨#[43, 48, 53, 47, 43, 48, 54]⟩, .string ⟨#[76, 77, 84]⟩, .string ⟨#[45]⟩, .string ⟨#[80, 37, 115, 84]⟩]), Form.val, Form.val, Form.rel (NewEra (w.heap.size + 2))] (EHeld w off sv at_ kd st fm yr mo bs dk dw dd) (by kernel_rfl) (by kernel_rfl) rfl rfl (⟨HG.1, HG.2.1, HG.2.2.drew⟩) (fun W W' h hb => ⟨h.1.below hb h.1.lt, h.2.1.below hb h.2.1.lt, h.2.2.trans (hb.mono h.2.2.size)⟩) ⟨TabIs.lasts _ _, PtrIs.lasts _ _, NewEra.lasts _, trivial⟩ ?_
  repeat (first | apply exSpec_rel | apply exSpec_new | apply exSpec_val)
  apply relWalk_ex rfl ?o0 (fun K hK => ?n0)
  case o0 =>
    intro W hC hF
    obtain ⟨q0, q1, q2, q3, q4, q5, q6, q7, q8, q9, q10, q11⟩ := hC.cells
    go_simp
    all_goals exact ⟨Below.refl _ _, rfl⟩
  case' n0 =>
    go_simp
    refine hK _ ?_
    clear hK K
  apply relWalk_ex rfl ?o1 (fun K hK => ?n1)
  case o1 =>
    intro W hC hF
    obtain ⟨q0, q1, q2, q3, q4, q5, q6, q7, q8, q9, q10, q11⟩ := hC.cells
    go_simp
    all_goals exact ⟨Below.refl _ _, rfl⟩
  case' n1 =>
    go_simp
    refine hK _ ?_
    clear hK K
  apply relWalk_ex rfl ?o2 (fun K hK => ?n2)
  case o2 =>
    intro W hC hF
    obtain ⟨q0, q1, q2, q3, q4, q5, q6, q7, q8, q9, q10, q11⟩ := hC.cells
    go_simp
    all_goals exact ⟨Below.refl _ _, rfl⟩
  case' n2 =>
    go_simp
    refine hK _ ?_
    clear hK K
  apply relWalk_ex rfl ?o3 (fun K hK => ?n3)
  case o3 =>
    intro W hC hF
    obtain ⟨q0, q1, q2, q3, q4, q5, q6, q7, q8, q9, q10, q11⟩ := hC.cells
    go_simp
    all_goals exact ⟨Below.refl _ _, rfl⟩
  case' n3 =>
    go_simp
    refine hK _ ?_
    clear hK K
  apply relWalk_ex rfl ?o4 (fun K hK => ?n4)
  case o4 =>
    intro W hC hF
    obtain ⟨q0, q1, q2, q3, q4, q5, q6, q7, q8, q9, q10, q11⟩ := hC.cells
    go_simp
    all_goals exact ⟨Below.refl _ _, rfl⟩
  case' n4 =>
    go_simp
    refine hK _ ?_
    clear hK K
  apply relWalk_ex rfl ?o5 (fun K hK => ?n5)
  case o5 =>
    intro W hC hF
    obtain ⟨q0, q1, q2, q3, q4, q5, q6, q7, q8, q9, q10, q11⟩ := hC.cells
    go_simp
    all_goals exact ⟨Below.refl _ _, rfl⟩
  case' n5 =>
    go_simp
    refine hK _ ?_
    clear hK K
  apply relWalk_ex rfl ?o6 (fun K hK => ?n6)
  case o6 =>
    intro W hC hF
    obtain ⟨q0, q1, q2, q3, q4, q5, q6, q7, q8, q9, q10, q11⟩ := hC.cells
    go_simp
    all_goals exact ⟨Below.refl _ _, rfl⟩
  case' n6 =>
    go_simp
    refine hK _ ?_
    clear hK K
  apply relWalk_ex rfl ?o7 (fun K hK => ?n7)
  case o7 =>
    intro W hC hF
    obtain ⟨q0, q1, q2, q3, q4, q5, q6, q7, q8, q9, q10, q11⟩ := hC.cells
    go_simp
    all_goals exact ⟨Below.refl _ _, rfl⟩
  case' n7 =>
    go_simp
    refine hK _ ?_
    clear hK K
  apply relWalk_rel rfl ?o8 (fun u8 K hK => ?n8)
  case o8 =>
    intro W hC hF
    obtain ⟨q0, q1, q2, q3, q4, q5, q6, q7, q8, q9, q10, q11⟩ := hC.cells
    go_simp
    all_goals exact ⟨by go_grown, _, rfl, Blk.new _ _ _⟩
  case' n8 =>
    go_simp
    refine hK _ ?_
    clear hK K
  apply relWalk_ex rfl ?o9 (fun K hK => ?n9)
  case o9 =>
    intro W hC hF
    obtain ⟨q0, q1, q2, q3, q4, q5, q6, q7, q8, q9, q10, q11⟩ := hC.cells
    go_simp
    all_goals exact ⟨Below.refl _ _, rfl⟩
  case' n9 =>
    go_simp
    refine hK _ ?_
    clear hK K
  apply relWalk_ex rfl ?o10 (fun K hK => ?n10)
  case o10 =>
    intro W hC hF
    obtain ⟨q0, q1, q2, q3, q4, q5, q6, q7, q8, q9, q10, q11⟩ := hC.cells
    go_simp
    all_goals exact ⟨Below.refl _ _, rfl⟩
  case' n10 =>
    go_simp
    refine hK _ ?_
    clear hK K
  apply relWalk_ex rfl ?o11 (fun K hK => ?n11)
  case o11 =>
    intro W hC hF
    obtain ⟨q0, q1, q2, q3, q4, q5, q6, q7, q8, q9, q10, q11⟩ := hC.cells
    go_simp
    all_goals exact ⟨Below.refl _ _, rfl⟩
  case' n11 =>
    go_simp
    refine hK _ ?_
    clear hK K
  apply relWalk_rel rfl ?o12 (fun u12 K hK => ?n12)
  case o12 =>
    intro W hC hF
    obtain ⟨⟨g, rfl, hB⟩, -⟩ := hF
    obtain ⟨q0, q1, q2, q3, q4, q5, q6, q7, q8, q9, q10, q11⟩ := hC.cells
    go_simp
    all_goals exact ⟨by go_grown, g, rfl, hB⟩
  case' n12 =>
    go_simp
    refine hK _ ?_
    clear hK K
  apply relWalk_ex rfl ?o13 (fun K hK => ?n13)
  case o13 =>
    intro W hC hF
    obtain ⟨⟨g, rfl, hB⟩, -⟩ := hF
    have hx : W.cell? ⟨g, i, none⟩ = some (.string sF) := Hc1.out W g hB
    obtain ⟨q0, q1, q2, q3, q4, q5, q6, q7, q8, q9, q10, q11⟩ := hC.cells
    go_simp
    all_goals exact ⟨Below.refl _ _, rfl⟩
  case' n13 =>
    go_simp
    refine hK _ ?_
    clear hK K
  apply relWalk_ex rfl ?o14 (fun K hK => ?n14)
  case o14 =>
    intro W hC hF
    obtain ⟨q0, q1, q2, q3, q4, q5, q6, q7, q8, q9, q10, q11⟩ := hC.cells
    go_simp
    all_goals exact ⟨Below.refl _ _, rfl⟩
  case' n14 =>
    go_simp
    refine hK _ ?_
    clear hK K
  apply relWalk_rel rfl ?o15 (fun u15 K hK => ?n15)
  case o15 =>
    intro W hC hF
    obtain ⟨q0, q1, q2, q3, q4, q5, q6, q7, q8, q9, q10, q11⟩ := hC.cells
    go_simp
    all_goals exact ⟨by go_grown, _, rfl, hC.2.1.lt, Blk.new _ _ _⟩
  case' n15 =>
    go_simp
    refine hK _ ?_
    clear hK K
  apply relWalk_end
  intro W hC hF hU
  obtain ⟨⟨g, rfl, hg, hB⟩, -⟩ := hF
  obtain ⟨hD, hZ, hb⟩ := hC
  refine wpList_store_mid rfl 55 (.tmp 5) (.tmp 20) rfl g 0 #[.int .i64 (off.tmod 604800), .int .i64 ((kd : Int) % 3), .int .i64 0, .string ⟨#[]⟩, .string sF, .bool false, .int .i64 0, .int .i64 0, .int .i64 0, .int .i64 0, .int .i64 0, .int .i64 0, .int .i64 0] rfl rfl (hB.there (Nat.le_refl _)) infoEra (by simp [Value.oneCell']) ?_
  have HB2 := Lib.hid (show Blk (W.setCells g 0 #[.int .i64 (off.tmod 604800), .int .i64 ((kd : Int) % 3), .int .i64 0, .string ⟨#[]⟩, .string sF, .bool false, .int .i64 0, .int .i64 0, .int .i64 0, .int .i64 0, .int .i64 0, .int .i64 0, .int .i64 0].toList) w.heap.size 66 #[.int .i32 off, .int .i32 sv, .int .i32 at_, .int .u8 (kd : Int), .int .u8 (st : Int), .int .u8 (fm : Int), .int .u16 (yr : Int), .int .u8 (mo : Int), .int .u8 (bs : Int), .int .u8 (dk : Int), .int .u8 (dw : Int), .int .u8 (dd : Int)] ∧ Blk (W.setCells g 0 #[.int .i64 (off.tmod 604800), .int .i64 ((kd : Int) % 3), .int .i64 0, .string ⟨#[]⟩, .string sF, .bool false, .int .i64 0, .int .i64 0, .int .i64 0, .int .i64 0, .int .i64 0, .int .i64 0, .int .i64 0].toList) (w.heap.size + 1) 55 #[.int .i64 0, .int .i64 0, .int .i64 0, .string ⟨#[]⟩, .string ⟨#[]⟩, .bool false, .int .i64 0, .int .i64 0, .int .i64 0, .int .i64 0, .int .i64 0, .int .i64 0, .int .i64 0] ∧ Blk (W.setCells g 0 #[.int .i64 (off.tmod 604800), .int .i64 ((kd : Int) % 3), .int .i64 0, .string ⟨#[]⟩, .string sF, .bool false, .int .i64 0, .int .i64 0, .int .i64 0, .int .i64 0, .int .i64 0, .int .i64 0, .int .i64 0].toList) g 55 #[.int .i64 (off.tmod 604800), .int .i64 ((kd : Int) % 3), .int .i64 0, .string ⟨#[]⟩, .string sF, .bool false, .int .i64 0, .int .i64 0, .int .i64 0, .int .i64 0, .int .i64 0, .int .i64 0, .int .i64 0] ∧ Below w.heap.size w (W.setCells g 0 #[.int .i64 (off.tmod 604800), .int .i64 ((kd : Int) % 3), .int .i64 0, .string ⟨#[]⟩, .string sF, .bool false, .int .i64 0, .int .i64 0, .int .i64 0, .int .i64 0, .int .i64 0, .int .i64 0, .int .i64 0].toList) ∧ w.heap.size + 2 ≤ g from ⟨Blk.farSets hD (by omega) _ _, Blk.farSets hZ (by omega) _ _, hB.setAll #[.int .i64 (off.tmod 604800), .int .i64 ((kd : Int) % 3), .int .i64 0, .string ⟨#[]⟩, .string sF, .bool false, .int .i64 0, .int .i64 0, .int .i64 0, .int .i64 0, .int .i64 0, .int .i64 0, .int .i64 0] rfl, below_sets (by omega) _ _ _ hb, hg⟩)
  clear hU hD hZ hb hB hg HG htm hw1 hw3 Hc1 hiA hiB hiI
  generalize W.setCells g 0 #[.int .i64 (off.tmod 604800), .int .i64 ((kd : Int) % 3), .int .i64 0, .string ⟨#[]⟩, .string sF, .bool false, .int .i64 0, .int .i64 0, .int .i64 0, .int .i64 0, .int .i64 0, .int .i64 0, .int .i64 0].toList = w2 at *
  have k1 : w2.cell? ⟨g, 1, none⟩ = some (.int .i64 ((kd : Int) % 3)) := HB2.out.2.2.1.cell_ rfl
  have t1 : w2.cell? ⟨w.heap.size, 1, none⟩ = some (.int .i32 sv) := HB2.out.1.cell_ rfl
  have q2 : w2.cell? ⟨g, 2, none⟩ = some (.int .i64 0) := HB2.out.2.2.1.cell_ rfl
  have f2 := HB2.out.2.2.1.frozen 2
  have hlt := HB2.out.2.2.1.lt
  obtain ⟨w3, hw3⟩ : ∃ Wz, (w2.setCell ⟨g, 2, none⟩ (.int .i64 (sv.tmod 604800))) = Wz := ⟨_, rfl⟩
  have HB3 := Lib.hid (show Blk w3 w.heap.size 66 #[.int .i32 off, .int .i32 sv, .int .i32 at_, .int .u8 (kd : Int), .int .u8 (st : Int), .int .u8 (fm : Int), .int .u16 (yr : Int), .int .u8 (mo : Int), .int .u8 (bs : Int), .int .u8 (dk : Int), .int .u8 (dw : Int), .int .u8 (dd : Int)] ∧ Blk w3 (w.heap.size + 1) 55 #[.int .i64 0, .int .i64 0, .int .i64 0, .string ⟨#[]⟩, .string ⟨#[]⟩, .bool false, .int .i64 0, .int .i64 0, .int .i64 0, .int .i64 0, .int .i64 0, .int .i64 0, .int .i64 0] ∧ Blk w3 g 55 #[.int .i64 (off.tmod 604800), .int .i64 ((kd : Int) % 3), .int .i64 (sv.tmod 604800), .string ⟨#[]⟩, .string sF, .bool false, .int .i64 0, .int .i64 0, .int .i64 0, .int .i64 0, .int .i64 0, .int .i64 0, .int .i64 0] ∧ Below w.heap.size w w3 ∧ w.heap.size + 2 ≤ g from by
    rw [← hw3]
    have hg := HB2.out.2.2.2.2
    exact ⟨Blk.farSets HB2.out.1 (by omega) [.int .i64 (sv.tmod 604800)] 2, Blk.farSets HB2.out.2.1 (by omega) [.int .i64 (sv.tmod 604800)] 2, Blk.setMid [.int .i64 (off.tmod 604800), .int .i64 ((kd : Int) % 3)] [.int .i64 0] [.int .i64 (sv.tmod 604800)] [.string ⟨#[]⟩, .string sF, .bool false, .int .i64 0, .int .i64 0, .int .i64 0, .int .i64 0, .int .i64 0, .int .i64 0, .int .i64 0] HB2.out.2.2.1 rfl, below_sets (by omega) [.int .i64 (sv.tmod 604800)] 2 _ HB2.out.2.2.2.1, hg⟩)
  go_upto_region 7 with fail
  try simp only [hw3]
  clear hw3 HB2 q2 f2 hlt t1 k1
  go_upto_region 8 with fail
  refine wp_region_rels 20 [[], [], [], [], [], [], [], [], [], [], [], [], [], [], [], [], [], [], [], []] [Form.val, Form.val, Form.val, Form.val, Form.val, Form.val, Form.val, Form.val, Form.val, Form.val, Form.val, Form.val, Form.val, Form.val, Form.val, Form.val, Form.val, Form.val, Form.val, Form.val] (fun W => Blk W w.heap.size 66 #[.int .i32 off, .int .i32 sv, .int .i32 at_, .int .u8 (kd : Int), .int .u8 (st : Int), .int .u8 (fm : Int), .int .u16 (yr : Int), .int .u8 (mo : Int), .int .u8 (bs : Int), .int .u8 (dk : Int), .int .u8 (dw : Int), .int .u8 (dd : Int)] ∧ Blk W (w.heap.size + 1) 55 #[.int .i64 0, .int .i64 0, .int .i64 0, .string ⟨#[]⟩, .string ⟨#[]⟩, .bool false, .int .i64 0, .int .i64 0, .int .i64 0, .int .i64 0, .int .i64 0, .int .i64 0, .int .i64 0] ∧ Blk W g 55 #[.int .i64 (off.tmod 604800), .int .i64 ((kd : Int) % 3), .int .i64 (sv.tmod 604800), .string ⟨#[]⟩, .string sF, .bool false, .int .i64 0, .int .i64 0, .int .i64 0, .int .i64 0, .int .i64 0, .int .i64 0, .int .i64 0] ∧ Below w.heap.size w W ∧ w.heap.size + 2 ≤ g) (by kernel_rfl) (by kernel_rfl) rfl rfl (⟨HB3.out.1, HB3.out.2.1, HB3.out.2.2.1, HB3.out.2.2.2.1.drew, HB3.out.2.2.2.2⟩) (fun W W2 h hb => ⟨h.1.below hb h.1.lt, h.2.1.below hb h.2.1.lt, h.2.2.1.below hb h.2.2.1.lt, h.2.2.2.1.trans (hb.mono h.2.2.2.1.size), h.2.2.2.2⟩) trivial ?_
  repeat (first | apply exSpec_rel | apply exSpec_new | apply exSpec_val)
  apply relWalk_ex rfl ?oy0 (fun K hK => ?ny0)
  case oy0 =>
    intro W hC hF
    have z2 : W.cell? ⟨w.heap.size, 2, none⟩ = some (.int .i32 at_) := hC.1.cell_ rfl
    have z6 : W.cell? ⟨w.heap.size, 6, none⟩ = some (.int .u16 (yr : Int)) := hC.1.cell_ rfl
    have z7 : W.cell? ⟨w.heap.size, 7, none⟩ = some (.int .u8 (mo : Int)) := hC.1.cell_ rfl
    have z8 : W.cell? ⟨w.heap.size, 8, none⟩ = some (.int .u8 (bs : Int)) := hC.1.cell_ rfl
    have hgl := hC.2.2.1.lt
    go_simp
    all_goals exact ⟨Below.refl _ _, rfl⟩
  case' ny0 =>
    go_simp
    refine hK _ ?_
    clear hK K
  apply relWalk_ex rfl ?oy1 (fun K hK => ?ny1)
  case oy1 =>
    intro W hC hF
    have z2 : W.cell? ⟨w.heap.size, 2, none⟩ = some (.int .i32 at_) := hC.1.cell_ rfl
    have z6 : W.cell? ⟨w.heap.size, 6, none⟩ = some (.int .u16 (yr : Int)) := hC.1.cell_ rfl
    have z7 : W.cell? ⟨w.heap.size, 7, none⟩ = some (.int .u8 (mo : Int)) := hC.1.cell_ rfl
    have z8 : W.cell? ⟨w.heap.size, 8, none⟩ = some (.int .u8 (bs : Int)) := hC.1.cell_ rfl
    have hgl := hC.2.2.1.lt
    go_simp
    all_goals exact ⟨Below.refl _ _, rfl⟩
  case' ny1 =>
    go_simp
    refine hK _ ?_
    clear hK K
  apply relWalk_ex rfl ?oy2 (fun K hK => ?ny2)
  case oy2 =>
    intro W hC hF
    have z2 : W.cell? ⟨w.heap.size, 2, none⟩ = some (.int .i32 at_) := hC.1.cell_ rfl
    have z6 : W.cell? ⟨w.heap.size, 6, none⟩ = some (.int .u16 (yr : Int)) := hC.1.cell_ rfl
    have z7 : W.cell? ⟨w.heap.size, 7, none⟩ = some (.int .u8 (mo : Int)) := hC.1.cell_ rfl
    have z8 : W.cell? ⟨w.heap.size, 8, none⟩ = some (.int .u8 (bs : Int)) := hC.1.cell_ rfl
    have hgl := hC.2.2.1.lt
    go_simp
    all_goals exact ⟨Below.refl _ _, rfl⟩
  case' ny2 =>
    go_simp
    refine hK _ ?_
    clear hK K
  apply relWalk_ex rfl ?oy3 (fun K hK => ?ny3)
  case oy3 =>
    intro W hC hF
    have z2 : W.cell? ⟨w.heap.size, 2, none⟩ = some (.int .i32 at_) := hC.1.cell_ rfl
    have z6 : W.cell? ⟨w.heap.size, 6, none⟩ = some (.int .u16 (yr : Int)) := hC.1.cell_ rfl
    have z7 : W.cell? ⟨w.heap.size, 7, none⟩ = some (.int .u8 (mo : Int)) := hC.1.cell_ rfl
    have z8 : W.cell? ⟨w.heap.size, 8, none⟩ = some (.int .u8 (bs : Int)) := hC.1.cell_ rfl
    have hgl := hC.2.2.1.lt
    go_simp
    all_goals exact ⟨Below.refl _ _, rfl⟩
  case' ny3 =>
    go_simp
    refine hK _ ?_
    clear hK K
  apply relWalk_ex rfl ?oy4 (fun K hK => ?ny4)
  case oy4 =>
    intro W hC hF
    have z2 : W.cell? ⟨w.heap.size, 2, none⟩ = some (.int .i32 at_) := hC.1.cell_ rfl
    have z6 : W.cell? ⟨w.heap.size, 6, none⟩ = some (.int .u16 (yr : Int)) := hC.1.cell_ rfl
    have z7 : W.cell? ⟨w.heap.size, 7, none⟩ = some (.int .u8 (mo : Int)) := hC.1.cell_ rfl
    have z8 : W.cell? ⟨w.heap.size, 8, none⟩ = some (.int .u8 (bs : Int)) := hC.1.cell_ rfl
    have hgl := hC.2.2.1.lt
    go_simp
    all_goals exact ⟨Below.refl _ _, rfl⟩
  case' ny4 =>
    go_simp
    refine hK _ ?_
    clear hK K
  apply relWalk_ex rfl ?oy5 (fun K hK => ?ny5)
  case oy5 =>
    intro W hC hF
    have z2 : W.cell? ⟨w.heap.size, 2, none⟩ = some (.int .i32 at_) := hC.1.cell_ rfl
    have z6 : W.cell? ⟨w.heap.size, 6, none⟩ = some (.int .u16 (yr : Int)) := hC.1.cell_ rfl
    have z7 : W.cell? ⟨w.heap.size, 7, none⟩ = some (.int .u8 (mo : Int)) := hC.1.cell_ rfl
    have z8 : W.cell? ⟨w.heap.size, 8, none⟩ = some (.int .u8 (bs : Int)) := hC.1.cell_ rfl
    have hgl := hC.2.2.1.lt
    go_simp
    all_goals exact ⟨Below.refl _ _, rfl⟩
  case' ny5 =>
    go_simp
    refine hK _ ?_
    clear hK K
  apply relWalk_ex rfl ?oy6 (fun K hK => ?ny6)
  case oy6 =>
    intro W hC hF
    have z2 : W.cell? ⟨w.heap.size, 2, none⟩ = some (.int .i32 at_) := hC.1.cell_ rfl
    have z6 : W.cell? ⟨w.heap.size, 6, none⟩ = some (.int .u16 (yr : Int)) := hC.1.cell_ rfl
    have z7 : W.cell? ⟨w.heap.size, 7, none⟩ = some (.int .u8 (mo : Int)) := hC.1.cell_ rfl
    have z8 : W.cell? ⟨w.heap.size, 8, none⟩ = some (.int .u8 (bs : Int)) := hC.1.cell_ rfl
    have hgl := hC.2.2.1.lt
    go_simp
    all_goals exact ⟨Below.refl _ _, rfl⟩
  case' ny6 =>
    go_simp
    refine hK _ ?_
    clear hK K
  apply relWalk_ex rfl ?oy7 (fun K hK => ?ny7)
  case oy7 =>
    intro W hC hF
    have z2 : W.cell? ⟨w.heap.size, 2, none⟩ = some (.int .i32 at_) := hC.1.cell_ rfl
    have z6 : W.cell? ⟨w.heap.size, 6, none⟩ = some (.int .u16 (yr : Int)) := hC.1.cell_ rfl
    have z7 : W.cell? ⟨w.heap.size, 7, none⟩ = some (.int .u8 (mo : Int)) := hC.1.cell_ rfl
    have z8 : W.cell? ⟨w.heap.size, 8, none⟩ = some (.int .u8 (bs : Int)) := hC.1.cell_ rfl
    have hgl := hC.2.2.1.lt
    go_simp
    all_goals exact ⟨Below.refl _ _, rfl⟩
  case' ny7 =>
    go_simp
    refine hK _ ?_
    clear hK K
  apply relWalk_ex rfl ?oy8 (fun K hK => ?ny8)
  case oy8 =>
    intro W hC hF
    have z2 : W.cell? ⟨w.heap.size, 2, none⟩ = some (.int .i32 at_) := hC.1.cell_ rfl
    have z6 : W.cell? ⟨w.heap.size, 6, none⟩ = some (.int .u16 (yr : Int)) := hC.1.cell_ rfl
    have z7 : W.cell? ⟨w.heap.size, 7, none⟩ = some (.int .u8 (mo : Int)) := hC.1.cell_ rfl
    have z8 : W.cell? ⟨w.heap.size, 8, none⟩ = some (.int .u8 (bs : Int)) := hC.1.cell_ rfl
    have hgl := hC.2.2.1.lt
    go_simp
    all_goals exact ⟨Below.refl _ _, rfl⟩
  case' ny8 =>
    go_simp
    refine hK _ ?_
    clear hK K
  apply relWalk_ex rfl ?oy9 (fun K hK => ?ny9)
  case oy9 =>
    intro W hC hF
    have z2 : W.cell? ⟨w.heap.size, 2, none⟩ = some (.int .i32 at_) := hC.1.cell_ rfl
    have z6 : W.cell? ⟨w.heap.size, 6, none⟩ = some (.int .u16 (yr : Int)) := hC.1.cell_ rfl
    have z7 : W.cell? ⟨w.heap.size, 7, none⟩ = some (.int .u8 (mo : Int)) := hC.1.cell_ rfl
    have z8 : W.cell? ⟨w.heap.size, 8, none⟩ = some (.int .u8 (bs : Int)) := hC.1.cell_ rfl
    have hgl := hC.2.2.1.lt
    go_simp
    all_goals exact ⟨Below.refl _ _, rfl⟩
  case' ny9 =>
    go_simp
    refine hK _ ?_
    clear hK K
  apply relWalk_ex rfl ?oy10 (fun K hK => ?ny10)
  case oy10 =>
    intro W hC hF
    have z2 : W.cell? ⟨w.heap.size, 2, none⟩ = some (.int .i32 at_) := hC.1.cell_ rfl
    have z6 : W.cell? ⟨w.heap.size, 6, none⟩ = some (.int .u16 (yr : Int)) := hC.1.cell_ rfl
    have z7 : W.cell? ⟨w.heap.size, 7, none⟩ = some (.int .u8 (mo : Int)) := hC.1.cell_ rfl
    have z8 : W.cell? ⟨w.heap.size, 8, none⟩ = some (.int .u8 (bs : Int)) := hC.1.cell_ rfl
    have hgl := hC.2.2.1.lt
    go_simp
    all_goals exact ⟨Below.refl _ _, rfl⟩
  case' ny10 =>
    go_simp
    refine hK _ ?_
    clear hK K
  apply relWalk_ex rfl ?oy11 (fun K hK => ?ny11)
  case oy11 =>
    intro W hC hF
    exact relAt_load_arr 64 (.tmp 50) rfl w.heap.size 9 rfl #[.int .u8 (dk : Int), .int .u8 (dw : Int), .int .u8 (dd : Int)] _ (fun q v hv => by match q, hv with | 0, hv => cases hv; exact hC.1.cell_ rfl | 1, hv => cases hv; exact hC.1.cell_ rfl | 2, hv => cases hv; exact hC.1.cell_ rfl | q + 3, hv => simp at hv) Tryz.underlying64 rfl (by kernel_rfl)
  case' ny11 =>
    go_simp
    refine hK _ ?_
    clear hK K
  apply relWalk_ex rfl ?oy12 (fun K hK => ?ny12)
  case oy12 =>
    intro W hC hF
    have z2 : W.cell? ⟨w.heap.size, 2, none⟩ = some (.int .i32 at_) := hC.1.cell_ rfl
    have z6 : W.cell? ⟨w.heap.size, 6, none⟩ = some (.int .u16 (yr : Int)) := hC.1.cell_ rfl
    have z7 : W.cell? ⟨w.heap.size, 7, none⟩ = some (.int .u8 (mo : Int)) := hC.1.cell_ rfl
    have z8 : W.cell? ⟨w.heap.size, 8, none⟩ = some (.int .u8 (bs : Int)) := hC.1.cell_ rfl
    have hgl := hC.2.2.1.lt
    go_simp
    all_goals exact (H2.out W).mono fun e w2 ⟨he, hb⟩ => ⟨he, hb⟩
  case' ny12 =>
    go_simp
    refine hK _ ?_
    clear hK K
  apply relWalk_ex rfl ?oy13 (fun K hK => ?ny13)
  case oy13 =>
    intro W hC hF
    have z2 : W.cell? ⟨w.heap.size, 2, none⟩ = some (.int .i32 at_) := hC.1.cell_ rfl
    have z6 : W.cell? ⟨w.heap.size, 6, none⟩ = some (.int .u16 (yr : Int)) := hC.1.cell_ rfl
    have z7 : W.cell? ⟨w.heap.size, 7, none⟩ = some (.int .u8 (mo : Int)) := hC.1.cell_ rfl
    have z8 : W.cell? ⟨w.heap.size, 8, none⟩ = some (.int .u8 (bs : Int)) := hC.1.cell_ rfl
    have hgl := hC.2.2.1.lt
    go_simp
    all_goals exact ⟨Below.refl _ _, rfl⟩
  case' ny13 =>
    go_simp
    refine hK _ ?_
    clear hK K
  apply relWalk_ex rfl ?oy14 (fun K hK => ?ny14)
  case oy14 =>
    intro W hC hF
    have z2 : W.cell? ⟨w.heap.size, 2, none⟩ = some (.int .i32 at_) := hC.1.cell_ rfl
    have z6 : W.cell? ⟨w.heap.size, 6, none⟩ = some (.int .u16 (yr : Int)) := hC.1.cell_ rfl
    have z7 : W.cell? ⟨w.heap.size, 7, none⟩ = some (.int .u8 (mo : Int)) := hC.1.cell_ rfl
    have z8 : W.cell? ⟨w.heap.size, 8, none⟩ = some (.int .u8 (bs : Int)) := hC.1.cell_ rfl
    have hgl := hC.2.2.1.lt
    go_simp
    all_goals exact ⟨Below.refl _ _, rfl⟩
  case' ny14 =>
    go_simp
    refine hK _ ?_
    clear hK K
  apply relWalk_ex rfl ?oy15 (fun K hK => ?ny15)
  case oy15 =>
    intro W hC hF
    have z2 : W.cell? ⟨w.heap.size, 2, none⟩ = some (.int .i32 at_) := hC.1.cell_ rfl
    have z6 : W.cell? ⟨w.heap.size, 6, none⟩ = some (.int .u16 (yr : Int)) := hC.1.cell_ rfl
    have z7 : W.cell? ⟨w.heap.size, 7, none⟩ = some (.int .u8 (mo : Int)) := hC.1.cell_ rfl
    have z8 : W.cell? ⟨w.heap.size, 8, none⟩ = some (.int .u8 (bs : Int)) := hC.1.cell_ rfl
    have hgl := hC.2.2.1.lt
    go_simp
    all_goals exact ⟨Below.refl _ _, rfl⟩
  case' ny15 =>
    go_simp
    refine hK _ ?_
    clear hK K
  apply relWalk_ex rfl ?oy16 (fun K hK => ?ny16)
  case oy16 =>
    intro W hC hF
    have z2 : W.cell? ⟨w.heap.size, 2, none⟩ = some (.int .i32 at_) := hC.1.cell_ rfl
    have z6 : W.cell? ⟨w.heap.size, 6, none⟩ = some (.int .u16 (yr : Int)) := hC.1.cell_ rfl
    have z7 : W.cell? ⟨w.heap.size, 7, none⟩ = some (.int .u8 (mo : Int)) := hC.1.cell_ rfl
    have z8 : W.cell? ⟨w.heap.size, 8, none⟩ = some (.int .u8 (bs : Int)) := hC.1.cell_ rfl
    have hgl := hC.2.2.1.lt
    go_simp
    all_goals exact ⟨Below.refl _ _, rfl⟩
  case' ny16 =>
    go_simp
    refine hK _ ?_
    clear hK K
  apply relWalk_ex rfl ?oy17 (fun K hK => ?ny17)
  case oy17 =>
    intro W hC hF
    have z2 : W.cell? ⟨w.heap.size, 2, none⟩ = some (.int .i32 at_) := hC.1.cell_ rfl
    have z6 : W.cell? ⟨w.heap.size, 6, none⟩ = some (.int .u16 (yr : Int)) := hC.1.cell_ rfl
    have z7 : W.cell? ⟨w.heap.size, 7, none⟩ = some (.int .u8 (mo : Int)) := hC.1.cell_ rfl
    have z8 : W.cell? ⟨w.heap.size, 8, none⟩ = some (.int .u8 (bs : Int)) := hC.1.cell_ rfl
    have hgl := hC.2.2.1.lt
    go_simp
    all_goals exact (H6.out W).mono fun e w2 ⟨he, hb⟩ => ⟨he, hb⟩
  case' ny17 =>
    go_simp
    refine hK _ ?_
    clear hK K
  apply relWalk_ex rfl ?oy18 (fun K hK => ?ny18)
  case oy18 =>
    intro W hC hF
    have z2 : W.cell? ⟨w.heap.size, 2, none⟩ = some (.int .i32 at_) := hC.1.cell_ rfl
    have z6 : W.cell? ⟨w.heap.size, 6, none⟩ = some (.int .u16 (yr : Int)) := hC.1.cell_ rfl
    have z7 : W.cell? ⟨w.heap.size, 7, none⟩ = some (.int .u8 (mo : Int)) := hC.1.cell_ rfl
    have z8 : W.cell? ⟨w.heap.size, 8, none⟩ = some (.int .u8 (bs : Int)) := hC.1.cell_ rfl
    have hgl := hC.2.2.1.lt
    go_simp
    all_goals exact ⟨Below.refl _ _, rfl⟩
  case' ny18 =>
    go_simp
    refine hK _ ?_
    clear hK K
  apply relWalk_ex rfl ?oy19 (fun K hK => ?ny19)
  case oy19 =>
    intro W hC hF
    have z2 : W.cell? ⟨w.heap.size, 2, none⟩ = some (.int .i32 at_) := hC.1.cell_ rfl
    have z6 : W.cell? ⟨w.heap.size, 6, none⟩ = some (.int .u16 (yr : Int)) := hC.1.cell_ rfl
    have z7 : W.cell? ⟨w.heap.size, 7, none⟩ = some (.int .u8 (mo : Int)) := hC.1.cell_ rfl
    have z8 : W.cell? ⟨w.heap.size, 8, none⟩ = some (.int .u8 (bs : Int)) := hC.1.cell_ rfl
    have hgl := hC.2.2.1.lt
    go_simp
    all_goals exact ⟨Below.refl _ _, rfl⟩
  case' ny19 =>
    go_simp
    refine hK _ ?_
    clear hK K
  apply relWalk_end
  intro W hC hF hU
  have HC := Lib.hid hC
  clear hC hU hF HB3
  have q5 : W.cell? ⟨g, 5, none⟩ = some (.bool false) := HC.out.2.2.1.cell_ rfl
  have f5 := HC.out.2.2.1.frozen 5
  have q6 : W.cell? ⟨g, 6, none⟩ = some (.int .i64 0) := HC.out.2.2.1.cell_ rfl
  have f6 := HC.out.2.2.1.frozen 6
  have q7 : W.cell? ⟨g, 7, none⟩ = some (.int .i64 0) := HC.out.2.2.1.cell_ rfl
  have f7 := HC.out.2.2.1.frozen 7
  have q8 : W.cell? ⟨g, 8, none⟩ = some (.int .i64 0) := HC.out.2.2.1.cell_ rfl
  have f8 := HC.out.2.2.1.frozen 8
  have q9 : W.cell? ⟨g, 9, none⟩ = some (.int .i64 0) := HC.out.2.2.1.cell_ rfl
  have f9 := HC.out.2.2.1.frozen 9
  have q10 : W.cell? ⟨g, 10, none⟩ = some (.int .i64 0) := HC.out.2.2.1.cell_ rfl
  have f10 := HC.out.2.2.1.frozen 10
  have q11 : W.cell? ⟨g, 11, none⟩ = some (.int .i64 0) := HC.out.2.2.1.cell_ rfl
  have f11 := HC.out.2.2.1.frozen 11
  have q12 : W.cell? ⟨g, 12, none⟩ = some (.int .i64 0) := HC.out.2.2.1.cell_ rfl
  have f12 := HC.out.2.2.1.frozen 12
  have hlt := HC.out.2.2.1.lt
  obtain ⟨w5, hw5⟩ : ∃ Wz, ((((((((W.setCell ⟨g, 5, none⟩ (.bool true)).setCell ⟨g, 6, none⟩ (.int .i64 (1850 + (yr : Int) % 300))).setCell ⟨g, 7, none⟩ (.int .i64 (1 + (mo : Int) % 12))).setCell ⟨g, 8, none⟩ (.int .i64 m1)).setCell ⟨g, 9, none⟩ (.int .i64 m2)).setCell ⟨g, 10, none⟩ (.int .i64 m3)).setCell ⟨g, 11, none⟩ (.int .i64 (at_.tmod 604800))).setCell ⟨g, 12, none⟩ (.int .i64 ((bs : Int) % 3))) = Wz := ⟨_, rfl⟩
  have HB5 := Lib.hid (show Blk w5 w.heap.size 66 #[.int .i32 off, .int .i32 sv, .int .i32 at_, .int .u8 (kd : Int), .int .u8 (st : Int), .int .u8 (fm : Int), .int .u16 (yr : Int), .int .u8 (mo : Int), .int .u8 (bs : Int), .int .u8 (dk : Int), .int .u8 (dw : Int), .int .u8 (dd : Int)] ∧ Blk w5 (w.heap.size + 1) 55 #[.int .i64 0, .int .i64 0, .int .i64 0, .string ⟨#[]⟩, .string ⟨#[]⟩, .bool false, .int .i64 0, .int .i64 0, .int .i64 0, .int .i64 0, .int .i64 0, .int .i64 0, .int .i64 0] ∧ Blk w5 g 55 #[.int .i64 (off.tmod 604800), .int .i64 ((kd : Int) % 3), .int .i64 (sv.tmod 604800), .string ⟨#[]⟩, .string sF, .bool true, .int .i64 (1850 + (yr : Int) % 300), .int .i64 (1 + (mo : Int) % 12), .int .i64 m1, .int .i64 m2, .int .i64 m3, .int .i64 (at_.tmod 604800), .int .i64 ((bs : Int) % 3)] ∧ Below w.heap.size w w5 ∧ w.heap.size + 2 ≤ g from by
    rw [← hw5]
    have hg := HC.out.2.2.2.2
    exact ⟨Blk.farSets HC.out.1 (by omega) [.bool true, .int .i64 (1850 + (yr : Int) % 300), .int .i64 (1 + (mo : Int) % 12), .int .i64 m1, .int .i64 m2, .int .i64 m3, .int .i64 (at_.tmod 604800), .int .i64 ((bs : Int) % 3)] 5, Blk.farSets HC.out.2.1 (by omega) [.bool true, .int .i64 (1850 + (yr : Int) % 300), .int .i64 (1 + (mo : Int) % 12), .int .i64 m1, .int .i64 m2, .int .i64 m3, .int .i64 (at_.tmod 604800), .int .i64 ((bs : Int) % 3)] 5, Blk.setMid [.int .i64 (off.tmod 604800), .int .i64 ((kd : Int) % 3), .int .i64 (sv.tmod 604800), .string ⟨#[]⟩, .string sF] [.bool false, .int .i64 0, .int .i64 0, .int .i64 0, .int .i64 0, .int .i64 0, .int .i64 0, .int .i64 0] [.bool true, .int .i64 (1850 + (yr : Int) % 300), .int .i64 (1 + (mo : Int) % 12), .int .i64 m1, .int .i64 m2, .int .i64 m3, .int .i64 (at_.tmod 604800), .int .i64 ((bs : Int) % 3)] [] HC.out.2.2.1 rfl, below_sets (by omega) [.bool true, .int .i64 (1850 + (yr : Int) % 300), .int .i64 (1 + (mo : Int) % 12), .int .i64 m1, .int .i64 m2, .int .i64 m3, .int .i64 (at_.tmod 604800), .int .i64 ((bs : Int) % 3)] 5 _ HC.out.2.2.2.1, hg⟩)
  go_upto_region 9 with fail
  try simp only [hw5]
  clear hw5 HC q5 f5 q6 f6 q7 f7 q8 f8 q9 f9 q10 f10 q11 f11 q12 f12 hlt
  obtain ⟨C, hCC⟩ : ∃ C : Array Value, #[.int .i64 (off.tmod 604800), .int .i64 ((kd : Int) % 3), .int .i64 (sv.tmod 604800), .string ⟨#[]⟩, .string sF, .bool true, .int .i64 (1850 + (yr : Int) % 300), .int .i64 (1 + (mo : Int) % 12), .int .i64 m1, .int .i64 m2, .int .i64 m3, .int .i64 (at_.tmod 604800), .int .i64 ((bs : Int) % 3)] = C := ⟨_, rfl⟩
  have Hi := Lib.hid (show (Tryz.prog.info? 55).map (·.size) = some C.size ∧ C.all (·.oneCell') = true ∧ C.size = 13 from hCC ▸ ⟨infoEra, by simp [Value.oneCell'], rfl⟩)
  rw [hCC] at HB5
  have HCC := Lib.hid hCC
  clear hCC
  go_wp2_with (first
    | (refine wpList_load_row rfl 55 (.tmp 5) rfl g rfl 55 C (0, 0) _ HB5.out.2.2.1 Tryz.underlying55 rfl Hi.out.1 ?_)
    | (refine wpList_store_mid rfl 55 (.tmp 4) (.tmp 60) rfl (w.heap.size + 1) 0 C rfl rfl (HB5.out.2.1.there (by rw [Hi.out.2.2]; decide)) Hi.out.1 Hi.out.2.1 ?_))
  exact bodyPost_ret (results_cell_row rfl _ _ (w.heap.size + 1) 55 C (0, 0) _ rfl (HB5.out.2.1.setAll C Hi.out.2.2) Tryz.underlying55 rfl Hi.out.1) rfl ⟨by rw [← HCC.out], below_sets (by omega) _ _ _ HB5.out.2.2.2.1⟩

set_option maxRecDepth 100000 in
set_option maxHeartbeats 2000000 in
theorem emade_2_0 (off sv at_ : Int) (kd st fm yr mo bs dk dw dd : Nat) (m1 m2 m3 : Int) (sF sS : ByteArray) (w : World) (h1 : -2147483648 ≤ off ∧ off ≤ 2147483647) (h2 : -2147483648 ≤ sv ∧ sv ≤ 2147483647) (b1 : kd < 256) (b2 : st < 256) (b3 : fm < 256) (b5 : yr < 65536) (b6 : mo < 256)
    (hk : kd % 3 = 2) (hF : efmtM fm = sF.data.toList) (hS : nameM st = sS.data.toList)
    (H2 : Hid (∀ W, Calls Tryz.prog 67 #[.agg #[.int .u8 (dk : Int), .int .u8 (dw : Int), .int .u8 (dd : Int)]] W fun e w' => e = .returned (.agg #[.int .i64 m1, .int .i64 m2, .int .i64 m3]) ∧ Below W.heap.size W w'))
    (H6 : Hid (∀ W, Calls Tryz.prog 68 #[.int .i32 at_, .int .u8 (bs : Int)] W fun e w' => e = .returned (.agg #[.int .i64 (at_.tmod 604800), .int .i64 ((bs : Int) % 3)]) ∧ Below W.heap.size W w')) :
    Calls Tryz.prog 21 #[.agg #[.int .i32 off, .int .i32 sv, .int .i32 at_, .int .u8 (kd : Int), .int .u8 (st : Int), .int .u8 (fm : Int), .int .u16 (yr : Int), .int .u8 (mo : Int), .int .u8 (bs : Int), .int .u8 (dk : Int), .int .u8 (dw : Int), .int .u8 (dd : Int)], .bool false] w fun e w' => e = .returned (.agg #[.int .i64 (off.tmod 604800), .int .i64 ((kd : Int) % 3), .int .i64 0, .string sS, .string sF, .bool false, .int .i64 0, .int .i64 0, .int .i64 0, .int .i64 0, .int .i64 0, .int .i64 0, .int .i64 0]) ∧ Below w.heap.size w w' := by
  obtain ⟨h1a, h1b⟩ := h1
  obtain ⟨h2a, h2b⟩ := h2
  obtain ⟨i, hi⟩ : ∃ i, fm % 8 = i := ⟨_, rfl⟩
  obtain ⟨j, hj⟩ : ∃ j, st % 4 = j := ⟨_, rfl⟩
  have hi8 : i < 8 := by omega
  have hj4 : j < 4 := by omega
  have Hc1 := Lib.hid (show ∀ W g, Blk W g 9 #[.string ⟨#[71, 77, 84]⟩, .string ⟨#[73, 83, 84, 47, 71, 77, 84]⟩, .string ⟨#[37, 122]⟩, .string ⟨#[69, 37, 115, 84]⟩, .string ⟨#[43, 48, 53, 47, 43, 48, 54]⟩, .string ⟨#[76, 77, 84]⟩, .string ⟨#[45]⟩, .string ⟨#[80, 37, 115, 84]⟩] → W.cell? ⟨g, i, none⟩ = some (.string sF) from fun W g h => h.cell_ (by
    rw [show sF = ⟨(efmtM fm).toArray⟩ by rw [hF, ba_list], efmtM, hi]
    rcases (by omega : i = 0 ∨ i = 1 ∨ i = 2 ∨ i = 3 ∨ i = 4 ∨ i = 5 ∨ i = 6 ∨ i = 7) with h | h | h | h | h | h | h | h <;> subst h <;> rfl))
  have Hc2 := Lib.hid (show ∀ W g, Blk W g 9 #[.string ⟨#[82]⟩, .string ⟨#[69, 105, 114, 101]⟩, .string ⟨#[69, 85]⟩, .string ⟨#[67, 45, 69, 117, 114]⟩] → W.cell? ⟨g, j, none⟩ = some (.string sS) from fun W g h => h.cell_ (by
    rw [show sS = ⟨(nameM st).toArray⟩ by rw [hS, ba_list], nameM, hj]
    rcases (by omega : j = 0 ∨ j = 1 ∨ j = 2 ∨ j = 3) with h | h | h | h <;> subst h <;> rfl))
  have htm : ∀ (a : Nat) (b : Int), (a : Int).tmod b = (a : Int) % b := fun a b => Int.tmod_eq_emod_of_nonneg (by omega)
  have hw1 : IntKind.i64.wrap off = off := IntWalk.i64_in _ (by omega)
  have hw2 : IntKind.i64.wrap sv = sv := IntWalk.i64_in _ (by omega)
  have hw3 : IntKind.i64.wrap ((kd : Int) % 3) = (kd : Int) % 3 := IntWalk.i64_in _ (by omega)
  have hiA : (0 : Int) ≤ (i : Int) := by omega
  have hiB : (i : Int) < 8 := by omega
  have hjA : (0 : Int) ≤ (j : Int) := by omega
  have hjB : (j : Int) < 4 := by omega
  have hiI : (fm : Int) % 8 = (i : Int) := by omega
  have hjI : (st : Int) % 4 = (j : Int) := by omega
  have e1 : ((kd : Int) % 3 == 1) = false := by rw [beq_eq_false_iff_ne]; omega
  have e2 : ((kd : Int) % 3 == 2) = true := by rw [beq_iff_eq]; omega
  clear hk hF hS hi hj hi8 hj4
  go_enter Tryz.func21, Tryz.ntmps21
  go_upto_region 1 with fail
  have HG : EHeld w off sv at_ kd st fm yr mo bs dk dw dd ((w.alloc (.cells #[.int .i32 off, .int .i32 sv, .int .i32 at_, .int .u8 (kd : Int), .int .u8 (st : Int), .int .u8 (fm : Int), .int .u16 (yr : Int), .int .u8 (mo : Int), .int .u8 (bs : Int), .int .u8 (dk : Int), .int .u8 (dw : Int), .int .u8 (dd : Int)] 66)).alloc (.cells #[.int .i64 0, .int .i64 0, .int .i64 0, .string ⟨#[]⟩, .string ⟨#[]⟩, .bool false, .int .i64 0, .int .i64 0, .int .i64 0, .int .i64 0, .int .i64 0, .int .i64 0, .int .i64 0] 55)) := ⟨(Blk.new' _ _ _ rfl).alloc _, Blk.new' _ _ _ (by simp), by go_grown⟩
  refine wp_region_rels 16 [[], [], [], [], [], [], [], [], [], [], [], [], [8], [12], [], []] [Form.val, Form.val, Form.val, Form.val, Form.val, Form.val, Form.val, Form.val, Form.rel (TabIs 8 #[.string ⟨#[71, 77, 84]⟩, .string ⟨#[73, 83, 84, 47, 71, 77, 84]⟩, .string ⟨#[37, 122]⟩, .string ⟨#[69, 37, 115, 84]⟩, .string ⟨#[43, 48, 53, 47, 43, 48, 54]⟩, .string ⟨#[76, 77, 84]⟩, .string ⟨#[45]⟩, .string ⟨#[80, 37, 115, 84]⟩]), Form.val, Form.val, Form.val, Form.rel (PtrIs i #[.string ⟨#[71, 77, 84]⟩, .string ⟨#[73, 83, 84, 47, 71, 77, 84]⟩, .string ⟨#[37, 122]⟩, .string ⟨#[69, 37, 115, 84]⟩, .string ⟨#[43, 48, 53, 47, 43, 48, 54]⟩, .string ⟨#[76, 77, 84]⟩, .string ⟨#[45]⟩, .string ⟨#[80, 37, 115, 84]⟩]), Form.val, Form.val, Form.rel (NewEra (w.heap.size + 2))] (EHeld w off sv at_ kd st fm yr mo bs dk dw dd) (by kernel_rfl) (by kernel_rfl) rfl rfl (⟨HG.1, HG.2.1, HG.2.2.drew⟩) (fun W W' h hb => ⟨h.1.below hb h.1.lt, h.2.1.below hb h.2.1.lt, h.2.2.trans (hb.mono h.2.2.size)⟩) ⟨TabIs.lasts _ _, PtrIs.lasts _ _, NewEra.lasts _, trivial⟩ ?_
  repeat (first | apply exSpec_rel | apply exSpec_new | apply exSpec_val)
  apply relWalk_ex rfl ?o0 (fun K hK => ?n0)
  case o0 =>
    intro W hC hF
    obtain ⟨q0, q1, q2, q3, q4, q5, q6, q7, q8, q9, q10, q11⟩ := hC.cells
    go_simp
    all_goals exact ⟨Below.refl _ _, rfl⟩
  case' n0 =>
    go_simp
    refine hK _ ?_
    clear hK K
  apply relWalk_ex rfl ?o1 (fun K hK => ?n1)
  case o1 =>
    intro W hC hF
    obtain ⟨q0, q1, q2, q3, q4, q5, q6, q7, q8, q9, q10, q11⟩ := hC.cells
    go_simp
    all_goals exact ⟨Below.refl _ _, rfl⟩
  case' n1 =>
    go_simp
    refine hK _ ?_
    clear hK K
  apply relWalk_ex rfl ?o2 (fun K hK => ?n2)
  case o2 =>
    intro W hC hF
    obtain ⟨q0, q1, q2, q3, q4, q5, q6, q7, q8, q9, q10, q11⟩ := hC.cells
    go_simp
    all_goals exact ⟨Below.refl _ _, rfl⟩
  case' n2 =>
    go_simp
    refine hK _ ?_
    clear hK K
  apply relWalk_ex rfl ?o3 (fun K hK => ?n3)
  case o3 =>
    intro W hC hF
    obtain ⟨q0, q1, q2, q3, q4, q5, q6, q7, q8, q9, q10, q11⟩ := hC.cells
    go_simp
    all_goals exact ⟨Below.refl _ _, rfl⟩
  case' n3 =>
    go_simp
    refine hK _ ?_
    clear hK K
  apply relWalk_ex rfl ?o4 (fun K hK => ?n4)
  case o4 =>
    intro W hC hF
    obtain ⟨q0, q1, q2, q3, q4, q5, q6, q7, q8, q9, q10, q11⟩ := hC.cells
    go_simp
    all_goals exact ⟨Below.refl _ _, rfl⟩
  case' n4 =>
    go_simp
    refine hK _ ?_
    clear hK K
  apply relWalk_ex rfl ?o5 (fun K hK => ?n5)
  case o5 =>
    intro W hC hF
    obtain ⟨q0, q1, q2, q3, q4, q5, q6, q7, q8, q9, q10, q11⟩ := hC.cells
    go_simp
    all_goals exact ⟨Below.refl _ _, rfl⟩
  case' n5 =>
    go_simp
    refine hK _ ?_
    clear hK K
  apply relWalk_ex rfl ?o6 (fun K hK => ?n6)
  case o6 =>
    intro W hC hF
    obtain ⟨q0, q1, q2, q3, q4, q5, q6, q7, q8, q9, q10, q11⟩ := hC.cells
    go_simp
    all_goals exact ⟨Below.refl _ _, rfl⟩
  case' n6 =>
    go_simp
    refine hK _ ?_
    clear hK K
  apply relWalk_ex rfl ?o7 (fun K hK => ?n7)
  case o7 =>
    intro W hC hF
    obtain ⟨q0, q1, q2, q3, q4, q5, q6, q7, q8, q9, q10, q11⟩ := hC.cells
    go_simp
    all_goals exact ⟨Below.refl _ _, rfl⟩
  case' n7 =>
    go_simp
    refine hK _ ?_
    clear hK K
  apply relWalk_rel rfl ?o8 (fun u8 K hK => ?n8)
  case o8 =>
    intro W hC hF
    obtain ⟨q0, q1, q2, q3, q4, q5, q6, q7, q8, q9, q10, q11⟩ := hC.cells
    go_simp
    all_goals exact ⟨by go_grown, _, rfl, Blk.new _ _ _⟩
  case' n8 =>
    go_simp
    refine hK _ ?_
    clear hK K
  apply relWalk_ex rfl ?o9 (fun K hK => ?n9)
  case o9 =>
    intro W hC hF
    obtain ⟨q0, q1, q2, q3, q4, q5, q6, q7, q8, q9, q10, q11⟩ := hC.cells
    go_simp
    all_goals exact ⟨Below.refl _ _, rfl⟩
  case' n9 =>
    go_simp
    refine hK _ ?_
    clear hK K
  apply relWalk_ex rfl ?o10 (fun K hK => ?n10)
  case o10 =>
    intro W hC hF
    obtain ⟨q0, q1, q2, q3, q4, q5, q6, q7, q8, q9, q10, q11⟩ := hC.cells
    go_simp
    all_goals exact ⟨Below.refl _ _, rfl⟩
  case' n10 =>
    go_simp
    refine hK _ ?_
    clear hK K
  apply relWalk_ex rfl ?o11 (fun K hK => ?n11)
  case o11 =>
    intro W hC hF
    obtain ⟨q0, q1, q2, q3, q4, q5, q6, q7, q8, q9, q10, q11⟩ := hC.cells
    go_simp
    all_goals exact ⟨Below.refl _ _, rfl⟩
  case' n11 =>
    go_simp
    refine hK _ ?_
    clear hK K
  apply relWalk_rel rfl ?o12 (fun u12 K hK => ?n12)
  case o12 =>
    intro W hC hF
    obtain ⟨⟨g, rfl, hB⟩, -⟩ := hF
    obtain ⟨q0, q1, q2, q3, q4, q5, q6, q7, q8, q9, q10, q11⟩ := hC.cells
    go_simp
    all_goals exact ⟨by go_grown, g, rfl, hB⟩
  case' n12 =>
    go_simp
    refine hK _ ?_
    clear hK K
  apply relWalk_ex rfl ?o13 (fun K hK => ?n13)
  case o13 =>
    intro W hC hF
    obtain ⟨⟨g, rfl, hB⟩, -⟩ := hF
    have hx : W.cell? ⟨g, i, none⟩ = some (.string sF) := Hc1.out W g hB
    obtain ⟨q0, q1, q2, q3, q4, q5, q6, q7, q8, q9, q10, q11⟩ := hC.cells
    go_simp
    all_goals exact ⟨Below.refl _ _, rfl⟩
  case' n13 =>
    go_simp
    refine hK _ ?_
    clear hK K
  apply relWalk_ex rfl ?o14 (fun K hK => ?n14)
  case o14 =>
    intro W hC hF
    obtain ⟨q0, q1, q2, q3, q4, q5, q6, q7, q8, q9, q10, q11⟩ := hC.cells
    go_simp
    all_goals exact ⟨Below.refl _ _, rfl⟩
  case' n14 =>
    go_simp
    refine hK _ ?_
    clear hK K
  apply relWalk_rel rfl ?o15 (fun u15 K hK => ?n15)
  case o15 =>
    intro W hC hF
    obtain ⟨q0, q1, q2, q3, q4, q5, q6, q7, q8, q9, q10, q11⟩ := hC.cells
    go_simp
    all_goals exact ⟨by go_grown, _, rfl, hC.2.1.lt, Blk.new _ _ _⟩
  case' n15 =>
    go_simp
    refine hK _ ?_
    clear hK K
  apply relWalk_end
  intro W hC hF hU
  obtain ⟨⟨g, rfl, hg, hB⟩, -⟩ := hF
  obtain ⟨hD, hZ, hb⟩ := hC
  refine wpList_store_mid rfl 55 (.tmp 5) (.tmp 20) rfl g 0 #[.int .i64 (off.tmod 604800), .int .i64 ((kd : Int) % 3), .int .i64 0, .string ⟨#[]⟩, .string sF, .bool false, .int .i64 0, .int .i64 0, .int .i64 0, .int .i64 0, .int .i64 0, .int .i64 0, .int .i64 0] rfl rfl (hB.there (Nat.le_refl _)) infoEra (by simp [Value.oneCell']) ?_
  have HB2 := Lib.hid (show Blk (W.setCells g 0 #[.int .i64 (off.tmod 604800), .int .i64 ((kd : Int) % 3), .int .i64 0, .string ⟨#[]⟩, .string sF, .bool false, .int .i64 0, .int .i64 0, .int .i64 0, .int .i64 0, .int .i64 0, .int .i64 0, .int .i64 0].toList) w.heap.size 66 #[.int .i32 off, .int .i32 sv, .int .i32 at_, .int .u8 (kd : Int), .int .u8 (st : Int), .int .u8 (fm : Int), .int .u16 (yr : Int), .int .u8 (mo : Int), .int .u8 (bs : Int), .int .u8 (dk : Int), .int .u8 (dw : Int), .int .u8 (dd : Int)] ∧ Blk (W.setCells g 0 #[.int .i64 (off.tmod 604800), .int .i64 ((kd : Int) % 3), .int .i64 0, .string ⟨#[]⟩, .string sF, .bool false, .int .i64 0, .int .i64 0, .int .i64 0, .int .i64 0, .int .i64 0, .int .i64 0, .int .i64 0].toList) (w.heap.size + 1) 55 #[.int .i64 0, .int .i64 0, .int .i64 0, .string ⟨#[]⟩, .string ⟨#[]⟩, .bool false, .int .i64 0, .int .i64 0, .int .i64 0, .int .i64 0, .int .i64 0, .int .i64 0, .int .i64 0] ∧ Blk (W.setCells g 0 #[.int .i64 (off.tmod 604800), .int .i64 ((kd : Int) % 3), .int .i64 0, .string ⟨#[]⟩, .string sF, .bool false, .int .i64 0, .int .i64 0, .int .i64 0, .int .i64 0, .int .i64 0, .int .i64 0, .int .i64 0].toList) g 55 #[.int .i64 (off.tmod 604800), .int .i64 ((kd : Int) % 3), .int .i64 0, .string ⟨#[]⟩, .string sF, .bool false, .int .i64 0, .int .i64 0, .int .i64 0, .int .i64 0, .int .i64 0, .int .i64 0, .int .i64 0] ∧ Below w.heap.size w (W.setCells g 0 #[.int .i64 (off.tmod 604800), .int .i64 ((kd : Int) % 3), .int .i64 0, .string ⟨#[]⟩, .string sF, .bool false, .int .i64 0, .int .i64 0, .int .i64 0, .int .i64 0, .int .i64 0, .int .i64 0, .int .i64 0].toList) ∧ w.heap.size + 2 ≤ g from ⟨Blk.farSets hD (by omega) _ _, Blk.farSets hZ (by omega) _ _, hB.setAll #[.int .i64 (off.tmod 604800), .int .i64 ((kd : Int) % 3), .int .i64 0, .string ⟨#[]⟩, .string sF, .bool false, .int .i64 0, .int .i64 0, .int .i64 0, .int .i64 0, .int .i64 0, .int .i64 0, .int .i64 0] rfl, below_sets (by omega) _ _ _ hb, hg⟩)
  clear hU hD hZ hb hB hg HG htm hw1 hw3 Hc1 hiA hiB hiI
  generalize W.setCells g 0 #[.int .i64 (off.tmod 604800), .int .i64 ((kd : Int) % 3), .int .i64 0, .string ⟨#[]⟩, .string sF, .bool false, .int .i64 0, .int .i64 0, .int .i64 0, .int .i64 0, .int .i64 0, .int .i64 0, .int .i64 0].toList = w2 at *
  have k1 : w2.cell? ⟨g, 1, none⟩ = some (.int .i64 ((kd : Int) % 3)) := HB2.out.2.2.1.cell_ rfl
  have t4 : w2.cell? ⟨w.heap.size, 4, none⟩ = some (.int .u8 (st : Int)) := HB2.out.1.cell_ rfl
  have q3 : w2.cell? ⟨g, 3, none⟩ = some (.string ⟨#[]⟩) := HB2.out.2.2.1.cell_ rfl
  have f3 := HB2.out.2.2.1.frozen 3
  have hlt := HB2.out.2.2.1.lt
  have hltD := HB2.out.1.lt
  have hx : (#[.string ⟨#[82]⟩, .string ⟨#[69, 105, 114, 101]⟩, .string ⟨#[69, 85]⟩, .string ⟨#[67, 45, 69, 117, 114]⟩] : Array Value)[j]? = some (.string sS) := by
    have := Hc2.out _ _ (Blk.new' w2 9 #[.string ⟨#[82]⟩, .string ⟨#[69, 105, 114, 101]⟩, .string ⟨#[69, 85]⟩, .string ⟨#[67, 45, 69, 117, 114]⟩] rfl)
    rwa [(Blk.new' w2 9 #[.string ⟨#[82]⟩, .string ⟨#[69, 105, 114, 101]⟩, .string ⟨#[69, 85]⟩, .string ⟨#[67, 45, 69, 117, 114]⟩] rfl).cell] at this
  go_upto_region 7 with fail
  have HB3 := Lib.hid (show Blk ((w2.setCell ⟨g, 3, none⟩ (.string sS)).alloc (.cells #[.string ⟨#[82]⟩, .string ⟨#[69, 105, 114, 101]⟩, .string ⟨#[69, 85]⟩, .string ⟨#[67, 45, 69, 117, 114]⟩] 9)) w.heap.size 66 #[.int .i32 off, .int .i32 sv, .int .i32 at_, .int .u8 (kd : Int), .int .u8 (st : Int), .int .u8 (fm : Int), .int .u16 (yr : Int), .int .u8 (mo : Int), .int .u8 (bs : Int), .int .u8 (dk : Int), .int .u8 (dw : Int), .int .u8 (dd : Int)] ∧ Blk ((w2.setCell ⟨g, 3, none⟩ (.string sS)).alloc (.cells #[.string ⟨#[82]⟩, .string ⟨#[69, 105, 114, 101]⟩, .string ⟨#[69, 85]⟩, .string ⟨#[67, 45, 69, 117, 114]⟩] 9)) (w.heap.size + 1) 55 #[.int .i64 0, .int .i64 0, .int .i64 0, .string ⟨#[]⟩, .string ⟨#[]⟩, .bool false, .int .i64 0, .int .i64 0, .int .i64 0, .int .i64 0, .int .i64 0, .int .i64 0, .int .i64 0] ∧ Blk ((w2.setCell ⟨g, 3, none⟩ (.string sS)).alloc (.cells #[.string ⟨#[82]⟩, .string ⟨#[69, 105, 114, 101]⟩, .string ⟨#[69, 85]⟩, .string ⟨#[67, 45, 69, 117, 114]⟩] 9)) g 55 #[.int .i64 (off.tmod 604800), .int .i64 ((kd : Int) % 3), .int .i64 0, .string sS, .string sF, .bool false, .int .i64 0, .int .i64 0, .int .i64 0, .int .i64 0, .int .i64 0, .int .i64 0, .int .i64 0] ∧ Below w.heap.size w ((w2.setCell ⟨g, 3, none⟩ (.string sS)).alloc (.cells #[.string ⟨#[82]⟩, .string ⟨#[69, 105, 114, 101]⟩, .string ⟨#[69, 85]⟩, .string ⟨#[67, 45, 69, 117, 114]⟩] 9)) ∧ w.heap.size + 2 ≤ g from ⟨(HB2.out.1.far (by have := HB2.out.2.2.2.2; simp; omega) _).alloc _, (HB2.out.2.1.far (by have := HB2.out.2.2.2.2; simp; omega) _).alloc _, (HB2.out.2.2.1.set_ 3 _).alloc _, rbelow_alloc (HB2.out.2.2.2.1.setCell (by have := HB2.out.2.2.2.2; simp; omega) _) _, HB2.out.2.2.2.2⟩)
  generalize ((w2.setCell ⟨g, 3, none⟩ (.string sS)).alloc (.cells #[.string ⟨#[82]⟩, .string ⟨#[69, 105, 114, 101]⟩, .string ⟨#[69, 85]⟩, .string ⟨#[67, 45, 69, 117, 114]⟩] 9)) = w3 at *
  clear HB2 q3 f3 hlt t4 k1 hltD hx
  obtain ⟨C, hCC⟩ : ∃ C : Array Value, #[.int .i64 (off.tmod 604800), .int .i64 ((kd : Int) % 3), .int .i64 0, .string sS, .string sF, .bool false, .int .i64 0, .int .i64 0, .int .i64 0, .int .i64 0, .int .i64 0, .int .i64 0, .int .i64 0] = C := ⟨_, rfl⟩
  have Hi := Lib.hid (show (Tryz.prog.info? 55).map (·.size) = some C.size ∧ C.all (·.oneCell') = true ∧ C.size = 13 from hCC ▸ ⟨infoEra, by simp [Value.oneCell'], rfl⟩)
  rw [hCC] at HB3
  have HCC := Lib.hid hCC
  clear hCC
  go_wp2_with (first
    | (refine wpList_load_row rfl 55 (.tmp 5) rfl g rfl 55 C (0, 0) _ HB3.out.2.2.1 Tryz.underlying55 rfl Hi.out.1 ?_)
    | (refine wpList_store_mid rfl 55 (.tmp 4) (.tmp 60) rfl (w.heap.size + 1) 0 C rfl rfl (HB3.out.2.1.there (by rw [Hi.out.2.2]; decide)) Hi.out.1 Hi.out.2.1 ?_))
  exact bodyPost_ret (results_cell_row rfl _ _ (w.heap.size + 1) 55 C (0, 0) _ rfl (HB3.out.2.1.setAll C Hi.out.2.2) Tryz.underlying55 rfl Hi.out.1) rfl ⟨by rw [← HCC.out], below_sets (by omega) _ _ _ HB3.out.2.2.2.1⟩

set_option maxRecDepth 100000 in
set_option maxHeartbeats 2000000 in
theorem emade_2_1 (off sv at_ : Int) (kd st fm yr mo bs dk dw dd : Nat) (m1 m2 m3 : Int) (sF sS : ByteArray) (w : World) (h1 : -2147483648 ≤ off ∧ off ≤ 2147483647) (h2 : -2147483648 ≤ sv ∧ sv ≤ 2147483647) (b1 : kd < 256) (b2 : st < 256) (b3 : fm < 256) (b5 : yr < 65536) (b6 : mo < 256)
    (hk : kd % 3 = 2) (hF : efmtM fm = sF.data.toList) (hS : nameM st = sS.data.toList)
    (H2 : Hid (∀ W, Calls Tryz.prog 67 #[.agg #[.int .u8 (dk : Int), .int .u8 (dw : Int), .int .u8 (dd : Int)]] W fun e w' => e = .returned (.agg #[.int .i64 m1, .int .i64 m2, .int .i64 m3]) ∧ Below W.heap.size W w'))
    (H6 : Hid (∀ W, Calls Tryz.prog 68 #[.int .i32 at_, .int .u8 (bs : Int)] W fun e w' => e = .returned (.agg #[.int .i64 (at_.tmod 604800), .int .i64 ((bs : Int) % 3)]) ∧ Below W.heap.size W w')) :
    Calls Tryz.prog 21 #[.agg #[.int .i32 off, .int .i32 sv, .int .i32 at_, .int .u8 (kd : Int), .int .u8 (st : Int), .int .u8 (fm : Int), .int .u16 (yr : Int), .int .u8 (mo : Int), .int .u8 (bs : Int), .int .u8 (dk : Int), .int .u8 (dw : Int), .int .u8 (dd : Int)], .bool true] w fun e w' => e = .returned (.agg #[.int .i64 (off.tmod 604800), .int .i64 ((kd : Int) % 3), .int .i64 0, .string sS, .string sF, .bool true, .int .i64 (1850 + (yr : Int) % 300), .int .i64 (1 + (mo : Int) % 12), .int .i64 m1, .int .i64 m2, .int .i64 m3, .int .i64 (at_.tmod 604800), .int .i64 ((bs : Int) % 3)]) ∧ Below w.heap.size w w' := by
  obtain ⟨h1a, h1b⟩ := h1
  obtain ⟨h2a, h2b⟩ := h2
  obtain ⟨i, hi⟩ : ∃ i, fm % 8 = i := ⟨_, rfl⟩
  obtain ⟨j, hj⟩ : ∃ j, st % 4 = j := ⟨_, rfl⟩
  have hi8 : i < 8 := by omega
  have hj4 : j < 4 := by omega
  have Hc1 := Lib.hid (show ∀ W g, Blk W g 9 #[.string ⟨#[71, 77, 84]⟩, .string ⟨#[73, 83, 84, 47, 71, 77, 84]⟩, .string ⟨#[37, 122]⟩, .string ⟨#[69, 37, 115, 84]⟩, .string ⟨#[43, 48, 53, 47, 43, 48, 54]⟩, .string ⟨#[76, 77, 84]⟩, .string ⟨#[45]⟩, .string ⟨#[80, 37, 115, 84]⟩] → W.cell? ⟨g, i, none⟩ = some (.string sF) from fun W g h => h.cell_ (by
    rw [show sF = ⟨(efmtM fm).toArray⟩ by rw [hF, ba_list], efmtM, hi]
    rcases (by omega : i = 0 ∨ i = 1 ∨ i = 2 ∨ i = 3 ∨ i = 4 ∨ i = 5 ∨ i = 6 ∨ i = 7) with h | h | h | h | h | h | h | h <;> subst h <;> rfl))
  have Hc2 := Lib.hid (show ∀ W g, Blk W g 9 #[.string ⟨#[82]⟩, .string ⟨#[69, 105, 114, 101]⟩, .string ⟨#[69, 85]⟩, .string ⟨#[67, 45, 69, 117, 114]⟩] → W.cell? ⟨g, j, none⟩ = some (.string sS) from fun W g h => h.cell_ (by
    rw [show sS = ⟨(nameM st).toArray⟩ by rw [hS, ba_list], nameM, hj]
    rcases (by omega : j = 0 ∨ j = 1 ∨ j = 2 ∨ j = 3) with h | h | h | h <;> subst h <;> rfl))
  have htm : ∀ (a : Nat) (b : Int), (a : Int).tmod b = (a : Int) % b := fun a b => Int.tmod_eq_emod_of_nonneg (by omega)
  have hw1 : IntKind.i64.wrap off = off := IntWalk.i64_in _ (by omega)
  have hw2 : IntKind.i64.wrap sv = sv := IntWalk.i64_in _ (by omega)
  have hw3 : IntKind.i64.wrap ((kd : Int) % 3) = (kd : Int) % 3 := IntWalk.i64_in _ (by omega)
  have hiA : (0 : Int) ≤ (i : Int) := by omega
  have hiB : (i : Int) < 8 := by omega
  have hjA : (0 : Int) ≤ (j : Int) := by omega
  have hjB : (j : Int) < 4 := by omega
  have hiI : (fm : Int) % 8 = (i : Int) := by omega
  have hjI : (st : Int) % 4 = (j : Int) := by omega
  have e1 : ((kd : Int) % 3 == 1) = false := by rw [beq_eq_false_iff_ne]; omega
  have e2 : ((kd : Int) % 3 == 2) = true := by rw [beq_iff_eq]; omega
  clear hk hF hS hi hj hi8 hj4
  go_enter Tryz.func21, Tryz.ntmps21
  go_upto_region 1 with fail
  have HG : EHeld w off sv at_ kd st fm yr mo bs dk dw dd ((w.alloc (.cells #[.int .i32 off, .int .i32 sv, .int .i32 at_, .int .u8 (kd : Int), .int .u8 (st : Int), .int .u8 (fm : Int), .int .u16 (yr : Int), .int .u8 (mo : Int), .int .u8 (bs : Int), .int .u8 (dk : Int), .int .u8 (dw : Int), .int .u8 (dd : Int)] 66)).alloc (.cells #[.int .i64 0, .int .i64 0, .int .i64 0, .string ⟨#[]⟩, .string ⟨#[]⟩, .bool false, .int .i64 0, .int .i64 0, .int .i64 0, .int .i64 0, .int .i64 0, .int .i64 0, .int .i64 0] 55)) := ⟨(Blk.new' _ _ _ rfl).alloc _, Blk.new' _ _ _ (by simp), by go_grown⟩
  refine wp_region_rels 16 [[], [], [], [], [], [], [], [], [], [], [], [], [8], [12], [], []] [Form.val, Form.val, Form.val, Form.val, Form.val, Form.val, Form.val, Form.val, Form.rel (TabIs 8 #[.string ⟨#[71, 77, 84]⟩, .string ⟨#[73, 83, 84, 47, 71, 77, 84]⟩, .string ⟨#[37, 122]⟩, .string ⟨#[69, 37, 115, 84]⟩, .string ⟨#[43, 48, 53, 47, 43, 48, 54]⟩, .string ⟨#[76, 77, 84]⟩, .string ⟨#[45]⟩, .string ⟨#[80, 37, 115, 84]⟩]), Form.val, Form.val, Form.val, Form.rel (PtrIs i #[.string ⟨#[71, 77, 84]⟩, .string ⟨#[73, 83, 84, 47, 71, 77, 84]⟩, .string ⟨#[37, 122]⟩, .string ⟨#[69, 37, 115, 84]⟩, .string ⟨#[43, 48, 53, 47, 43, 48, 54]⟩, .string ⟨#[76, 77, 84]⟩, .string ⟨#[45]⟩, .string ⟨#[80, 37, 115, 84]⟩]), Form.val, Form.val, Form.rel (NewEra (w.heap.size + 2))] (EHeld w off sv at_ kd st fm yr mo bs dk dw dd) (by kernel_rfl) (by kernel_rfl) rfl rfl (⟨HG.1, HG.2.1, HG.2.2.drew⟩) (fun W W' h hb => ⟨h.1.below hb h.1.lt, h.2.1.below hb h.2.1.lt, h.2.2.trans (hb.mono h.2.2.size)⟩) ⟨TabIs.lasts _ _, PtrIs.lasts _ _, NewEra.lasts _, trivial⟩ ?_
  repeat (first | apply exSpec_rel | apply exSpec_new | apply exSpec_val)
  apply relWalk_ex rfl ?o0 (fun K hK => ?n0)
  case o0 =>
    intro W hC hF
    obtain ⟨q0, q1, q2, q3, q4, q5, q6, q7, q8, q9, q10, q11⟩ := hC.cells
    go_simp
    all_goals exact ⟨Below.refl _ _, rfl⟩
  case' n0 =>
    go_simp
    refine hK _ ?_
    clear hK K
  apply relWalk_ex rfl ?o1 (fun K hK => ?n1)
  case o1 =>
    intro W hC hF
    obtain ⟨q0, q1, q2, q3, q4, q5, q6, q7, q8, q9, q10, q11⟩ := hC.cells
    go_simp
    all_goals exact ⟨Below.refl _ _, rfl⟩
  case' n1 =>
    go_simp
    refine hK _ ?_
    clear hK K
  apply relWalk_ex rfl ?o2 (fun K hK => ?n2)
  case o2 =>
    intro W hC hF
    obtain ⟨q0, q1, q2, q3, q4, q5, q6, q7, q8, q9, q10, q11⟩ := hC.cells
    go_simp
    all_goals exact ⟨Below.refl _ _, rfl⟩
  case' n2 =>
    go_simp
    refine hK _ ?_
    clear hK K
  apply relWalk_ex rfl ?o3 (fun K hK => ?n3)
  case o3 =>
    intro W hC hF
    obtain ⟨q0, q1, q2, q3, q4, q5, q6, q7, q8, q9, q10, q11⟩ := hC.cells
    go_simp
    all_goals exact ⟨Below.refl _ _, rfl⟩
  case' n3 =>
    go_simp
    refine hK _ ?_
    clear hK K
  apply relWalk_ex rfl ?o4 (fun K hK => ?n4)
  case o4 =>
    intro W hC hF
    obtain ⟨q0, q1, q2, q3, q4, q5, q6, q7, q8, q9, q10, q11⟩ := hC.cells
    go_simp
    all_goals exact ⟨Below.refl _ _, rfl⟩
  case' n4 =>
    go_simp
    refine hK _ ?_
    clear hK K
  apply relWalk_ex rfl ?o5 (fun K hK => ?n5)
  case o5 =>
    intro W hC hF
    obtain ⟨q0, q1, q2, q3, q4, q5, q6, q7, q8, q9, q10, q11⟩ := hC.cells
    go_simp
    all_goals exact ⟨Below.refl _ _, rfl⟩
  case' n5 =>
    go_simp
    refine hK _ ?_
    clear hK K
  apply relWalk_ex rfl ?o6 (fun K hK => ?n6)
  case o6 =>
    intro W hC hF
    obtain ⟨q0, q1, q2, q3, q4, q5, q6, q7, q8, q9, q10, q11⟩ := hC.cells
    go_simp
    all_goals exact ⟨Below.refl _ _, rfl⟩
  case' n6 =>
    go_simp
    refine hK _ ?_
    clear hK K
  apply relWalk_ex rfl ?o7 (fun K hK => ?n7)
  case o7 =>
    intro W hC hF
    obtain ⟨q0, q1, q2, q3, q4, q5, q6, q7, q8, q9, q10, q11⟩ := hC.cells
    go_simp
    all_goals exact ⟨Below.refl _ _, rfl⟩
  case' n7 =>
    go_simp
    refine hK _ ?_
    clear hK K
  apply relWalk_rel rfl ?o8 (fun u8 K hK => ?n8)
  case o8 =>
    intro W hC hF
    obtain ⟨q0, q1, q2, q3, q4, q5, q6, q7, q8, q9, q10, q11⟩ := hC.cells
    go_simp
    all_goals exact ⟨by go_grown, _, rfl, Blk.new _ _ _⟩
  case' n8 =>
    go_simp
    refine hK _ ?_
    clear hK K
  apply relWalk_ex rfl ?o9 (fun K hK => ?n9)
  case o9 =>
    intro W hC hF
    obtain ⟨q0, q1, q2, q3, q4, q5, q6, q7, q8, q9, q10, q11⟩ := hC.cells
    go_simp
    all_goals exact ⟨Below.refl _ _, rfl⟩
  case' n9 =>
    go_simp
    refine hK _ ?_
    clear hK K
  apply relWalk_ex rfl ?o10 (fun K hK => ?n10)
  case o10 =>
    intro W hC hF
    obtain ⟨q0, q1, q2, q3, q4, q5, q6, q7, q8, q9, q10, q11⟩ := hC.cells
    go_simp
    all_goals exact ⟨Below.refl _ _, rfl⟩
  case' n10 =>
    go_simp
    refine hK _ ?_
    clear hK K
  apply relWalk_ex rfl ?o11 (fun K hK => ?n11)
  case o11 =>
    intro W hC hF
    obtain ⟨q0, q1, q2, q3, q4, q5, q6, q7, q8, q9, q10, q11⟩ := hC.cells
    go_simp
    all_goals exact ⟨Below.refl _ _, rfl⟩
  case' n11 =>
    go_simp
    refine hK _ ?_
    clear hK K
  apply relWalk_rel rfl ?o12 (fun u12 K hK => ?n12)
  case o12 =>
    intro W hC hF
    obtain ⟨⟨g, rfl, hB⟩, -⟩ := hF
    obtain ⟨q0, q1, q2, q3, q4, q5, q6, q7, q8, q9, q10, q11⟩ := hC.cells
    go_simp
    all_goals exact ⟨by go_grown, g, rfl, hB⟩
  case' n12 =>
    go_simp
    refine hK _ ?_
    clear hK K
  apply relWalk_ex rfl ?o13 (fun K hK => ?n13)
  case o13 =>
    intro W hC hF
    obtain ⟨⟨g, rfl, hB⟩, -⟩ := hF
    have hx : W.cell? ⟨g, i, none⟩ = some (.string sF) := Hc1.out W g hB
    obtain ⟨q0, q1, q2, q3, q4, q5, q6, q7, q8, q9, q10, q11⟩ := hC.cells
    go_simp
    all_goals exact ⟨Below.refl _ _, rfl⟩
  case' n13 =>
    go_simp
    refine hK _ ?_
    clear hK K
  apply relWalk_ex rfl ?o14 (fun K hK => ?n14)
  case o14 =>
    intro W hC hF
    obtain ⟨q0, q1, q2, q3, q4, q5, q6, q7, q8, q9, q10, q11⟩ := hC.cells
    go_simp
    all_goals exact ⟨Below.refl _ _, rfl⟩
  case' n14 =>
    go_simp
    refine hK _ ?_
    clear hK K
  apply relWalk_rel rfl ?o15 (fun u15 K hK => ?n15)
  case o15 =>
    intro W hC hF
    obtain ⟨q0, q1, q2, q3, q4, q5, q6, q7, q8, q9, q10, q11⟩ := hC.cells
    go_simp
    all_goals exact ⟨by go_grown, _, rfl, hC.2.1.lt, Blk.new _ _ _⟩
  case' n15 =>
    go_simp
    refine hK _ ?_
    clear hK K
  apply relWalk_end
  intro W hC hF hU
  obtain ⟨⟨g, rfl, hg, hB⟩, -⟩ := hF
  obtain ⟨hD, hZ, hb⟩ := hC
  refine wpList_store_mid rfl 55 (.tmp 5) (.tmp 20) rfl g 0 #[.int .i64 (off.tmod 604800), .int .i64 ((kd : Int) % 3), .int .i64 0, .string ⟨#[]⟩, .string sF, .bool false, .int .i64 0, .int .i64 0, .int .i64 0, .int .i64 0, .int .i64 0, .int .i64 0, .int .i64 0] rfl rfl (hB.there (Nat.le_refl _)) infoEra (by simp [Value.oneCell']) ?_
  have HB2 := Lib.hid (show Blk (W.setCells g 0 #[.int .i64 (off.tmod 604800), .int .i64 ((kd : Int) % 3), .int .i64 0, .string ⟨#[]⟩, .string sF, .bool false, .int .i64 0, .int .i64 0, .int .i64 0, .int .i64 0, .int .i64 0, .int .i64 0, .int .i64 0].toList) w.heap.size 66 #[.int .i32 off, .int .i32 sv, .int .i32 at_, .int .u8 (kd : Int), .int .u8 (st : Int), .int .u8 (fm : Int), .int .u16 (yr : Int), .int .u8 (mo : Int), .int .u8 (bs : Int), .int .u8 (dk : Int), .int .u8 (dw : Int), .int .u8 (dd : Int)] ∧ Blk (W.setCells g 0 #[.int .i64 (off.tmod 604800), .int .i64 ((kd : Int) % 3), .int .i64 0, .string ⟨#[]⟩, .string sF, .bool false, .int .i64 0, .int .i64 0, .int .i64 0, .int .i64 0, .int .i64 0, .int .i64 0, .int .i64 0].toList) (w.heap.size + 1) 55 #[.int .i64 0, .int .i64 0, .int .i64 0, .string ⟨#[]⟩, .string ⟨#[]⟩, .bool false, .int .i64 0, .int .i64 0, .int .i64 0, .int .i64 0, .int .i64 0, .int .i64 0, .int .i64 0] ∧ Blk (W.setCells g 0 #[.int .i64 (off.tmod 604800), .int .i64 ((kd : Int) % 3), .int .i64 0, .string ⟨#[]⟩, .string sF, .bool false, .int .i64 0, .int .i64 0, .int .i64 0, .int .i64 0, .int .i64 0, .int .i64 0, .int .i64 0].toList) g 55 #[.int .i64 (off.tmod 604800), .int .i64 ((kd : Int) % 3), .int .i64 0, .string ⟨#[]⟩, .string sF, .bool false, .int .i64 0, .int .i64 0, .int .i64 0, .int .i64 0, .int .i64 0, .int .i64 0, .int .i64 0] ∧ Below w.heap.size w (W.setCells g 0 #[.int .i64 (off.tmod 604800), .int .i64 ((kd : Int) % 3), .int .i64 0, .string ⟨#[]⟩, .string sF, .bool false, .int .i64 0, .int .i64 0, .int .i64 0, .int .i64 0, .int .i64 0, .int .i64 0, .int .i64 0].toList) ∧ w.heap.size + 2 ≤ g from ⟨Blk.farSets hD (by omega) _ _, Blk.farSets hZ (by omega) _ _, hB.setAll #[.int .i64 (off.tmod 604800), .int .i64 ((kd : Int) % 3), .int .i64 0, .string ⟨#[]⟩, .string sF, .bool false, .int .i64 0, .int .i64 0, .int .i64 0, .int .i64 0, .int .i64 0, .int .i64 0, .int .i64 0] rfl, below_sets (by omega) _ _ _ hb, hg⟩)
  clear hU hD hZ hb hB hg HG htm hw1 hw3 Hc1 hiA hiB hiI
  generalize W.setCells g 0 #[.int .i64 (off.tmod 604800), .int .i64 ((kd : Int) % 3), .int .i64 0, .string ⟨#[]⟩, .string sF, .bool false, .int .i64 0, .int .i64 0, .int .i64 0, .int .i64 0, .int .i64 0, .int .i64 0, .int .i64 0].toList = w2 at *
  have k1 : w2.cell? ⟨g, 1, none⟩ = some (.int .i64 ((kd : Int) % 3)) := HB2.out.2.2.1.cell_ rfl
  have t4 : w2.cell? ⟨w.heap.size, 4, none⟩ = some (.int .u8 (st : Int)) := HB2.out.1.cell_ rfl
  have q3 : w2.cell? ⟨g, 3, none⟩ = some (.string ⟨#[]⟩) := HB2.out.2.2.1.cell_ rfl
  have f3 := HB2.out.2.2.1.frozen 3
  have hlt := HB2.out.2.2.1.lt
  have hltD := HB2.out.1.lt
  have hx : (#[.string ⟨#[82]⟩, .string ⟨#[69, 105, 114, 101]⟩, .string ⟨#[69, 85]⟩, .string ⟨#[67, 45, 69, 117, 114]⟩] : Array Value)[j]? = some (.string sS) := by
    have := Hc2.out _ _ (Blk.new' w2 9 #[.string ⟨#[82]⟩, .string ⟨#[69, 105, 114, 101]⟩, .string ⟨#[69, 85]⟩, .string ⟨#[67, 45, 69, 117, 114]⟩] rfl)
    rwa [(Blk.new' w2 9 #[.string ⟨#[82]⟩, .string ⟨#[69, 105, 114, 101]⟩, .string ⟨#[69, 85]⟩, .string ⟨#[67, 45, 69, 117, 114]⟩] rfl).cell] at this
  go_upto_region 7 with fail
  have HB3 := Lib.hid (show Blk ((w2.setCell ⟨g, 3, none⟩ (.string sS)).alloc (.cells #[.string ⟨#[82]⟩, .string ⟨#[69, 105, 114, 101]⟩, .string ⟨#[69, 85]⟩, .string ⟨#[67, 45, 69, 117, 114]⟩] 9)) w.heap.size 66 #[.int .i32 off, .int .i32 sv, .int .i32 at_, .int .u8 (kd : Int), .int .u8 (st : Int), .int .u8 (fm : Int), .int .u16 (yr : Int), .int .u8 (mo : Int), .int .u8 (bs : Int), .int .u8 (dk : Int), .int .u8 (dw : Int), .int .u8 (dd : Int)] ∧ Blk ((w2.setCell ⟨g, 3, none⟩ (.string sS)).alloc (.cells #[.string ⟨#[82]⟩, .string ⟨#[69, 105, 114, 101]⟩, .string ⟨#[69, 85]⟩, .string ⟨#[67, 45, 69, 117, 114]⟩] 9)) (w.heap.size + 1) 55 #[.int .i64 0, .int .i64 0, .int .i64 0, .string ⟨#[]⟩, .string ⟨#[]⟩, .bool false, .int .i64 0, .int .i64 0, .int .i64 0, .int .i64 0, .int .i64 0, .int .i64 0, .int .i64 0] ∧ Blk ((w2.setCell ⟨g, 3, none⟩ (.string sS)).alloc (.cells #[.string ⟨#[82]⟩, .string ⟨#[69, 105, 114, 101]⟩, .string ⟨#[69, 85]⟩, .string ⟨#[67, 45, 69, 117, 114]⟩] 9)) g 55 #[.int .i64 (off.tmod 604800), .int .i64 ((kd : Int) % 3), .int .i64 0, .string sS, .string sF, .bool false, .int .i64 0, .int .i64 0, .int .i64 0, .int .i64 0, .int .i64 0, .int .i64 0, .int .i64 0] ∧ Below w.heap.size w ((w2.setCell ⟨g, 3, none⟩ (.string sS)).alloc (.cells #[.string ⟨#[82]⟩, .string ⟨#[69, 105, 114, 101]⟩, .string ⟨#[69, 85]⟩, .string ⟨#[67, 45, 69, 117, 114]⟩] 9)) ∧ w.heap.size + 2 ≤ g from ⟨(HB2.out.1.far (by have := HB2.out.2.2.2.2; simp; omega) _).alloc _, (HB2.out.2.1.far (by have := HB2.out.2.2.2.2; simp; omega) _).alloc _, (HB2.out.2.2.1.set_ 3 _).alloc _, rbelow_alloc (HB2.out.2.2.2.1.setCell (by have := HB2.out.2.2.2.2; simp; omega) _) _, HB2.out.2.2.2.2⟩)
  generalize ((w2.setCell ⟨g, 3, none⟩ (.string sS)).alloc (.cells #[.string ⟨#[82]⟩, .string ⟨#[69, 105, 114, 101]⟩, .string ⟨#[69, 85]⟩, .string ⟨#[67, 45, 69, 117, 114]⟩] 9)) = w3 at *
  clear HB2 q3 f3 hlt t4 k1 hltD hx
  go_upto_region 8 with fail
  refine wp_region_rels 20 [[], [], [], [], [], [], [], [], [], [], [], [], [], [], [], [], [], [], [], []] [Form.val, Form.val, Form.val, Form.val, Form.val, Form.val, Form.val, Form.val, Form.val, Form.val, Form.val, Form.val, Form.val, Form.val, Form.val, Form.val, Form.val, Form.val, Form.val, Form.val] (fun W => Blk W w.heap.size 66 #[.int .i32 off, .int .i32 sv, .int .i32 at_, .int .u8 (kd : Int), .int .u8 (st : Int), .int .u8 (fm : Int), .int .u16 (yr : Int), .int .u8 (mo : Int), .int .u8 (bs : Int), .int .u8 (dk : Int), .int .u8 (dw : Int), .int .u8 (dd : Int)] ∧ Blk W (w.heap.size + 1) 55 #[.int .i64 0, .int .i64 0, .int .i64 0, .string ⟨#[]⟩, .string ⟨#[]⟩, .bool false, .int .i64 0, .int .i64 0, .int .i64 0, .int .i64 0, .int .i64 0, .int .i64 0, .int .i64 0] ∧ Blk W g 55 #[.int .i64 (off.tmod 604800), .int .i64 ((kd : Int) % 3), .int .i64 0, .string sS, .string sF, .bool false, .int .i64 0, .int .i64 0, .int .i64 0, .int .i64 0, .int .i64 0, .int .i64 0, .int .i64 0] ∧ Below w.heap.size w W ∧ w.heap.size + 2 ≤ g) (by kernel_rfl) (by kernel_rfl) rfl rfl (⟨HB3.out.1, HB3.out.2.1, HB3.out.2.2.1, HB3.out.2.2.2.1.drew, HB3.out.2.2.2.2⟩) (fun W W2 h hb => ⟨h.1.below hb h.1.lt, h.2.1.below hb h.2.1.lt, h.2.2.1.below hb h.2.2.1.lt, h.2.2.2.1.trans (hb.mono h.2.2.2.1.size), h.2.2.2.2⟩) trivial ?_
  repeat (first | apply exSpec_rel | apply exSpec_new | apply exSpec_val)
  apply relWalk_ex rfl ?oy0 (fun K hK => ?ny0)
  case oy0 =>
    intro W hC hF
    have z2 : W.cell? ⟨w.heap.size, 2, none⟩ = some (.int .i32 at_) := hC.1.cell_ rfl
    have z6 : W.cell? ⟨w.heap.size, 6, none⟩ = some (.int .u16 (yr : Int)) := hC.1.cell_ rfl
    have z7 : W.cell? ⟨w.heap.size, 7, none⟩ = some (.int .u8 (mo : Int)) := hC.1.cell_ rfl
    have z8 : W.cell? ⟨w.heap.size, 8, none⟩ = some (.int .u8 (bs : Int)) := hC.1.cell_ rfl
    have hgl := hC.2.2.1.lt
    go_simp
    all_goals exact ⟨Below.refl _ _, rfl⟩
  case' ny0 =>
    go_simp
    refine hK _ ?_
    clear hK K
  apply relWalk_ex rfl ?oy1 (fun K hK => ?ny1)
  case oy1 =>
    intro W hC hF
    have z2 : W.cell? ⟨w.heap.size, 2, none⟩ = some (.int .i32 at_) := hC.1.cell_ rfl
    have z6 : W.cell? ⟨w.heap.size, 6, none⟩ = some (.int .u16 (yr : Int)) := hC.1.cell_ rfl
    have z7 : W.cell? ⟨w.heap.size, 7, none⟩ = some (.int .u8 (mo : Int)) := hC.1.cell_ rfl
    have z8 : W.cell? ⟨w.heap.size, 8, none⟩ = some (.int .u8 (bs : Int)) := hC.1.cell_ rfl
    have hgl := hC.2.2.1.lt
    go_simp
    all_goals exact ⟨Below.refl _ _, rfl⟩
  case' ny1 =>
    go_simp
    refine hK _ ?_
    clear hK K
  apply relWalk_ex rfl ?oy2 (fun K hK => ?ny2)
  case oy2 =>
    intro W hC hF
    have z2 : W.cell? ⟨w.heap.size, 2, none⟩ = some (.int .i32 at_) := hC.1.cell_ rfl
    have z6 : W.cell? ⟨w.heap.size, 6, none⟩ = some (.int .u16 (yr : Int)) := hC.1.cell_ rfl
    have z7 : W.cell? ⟨w.heap.size, 7, none⟩ = some (.int .u8 (mo : Int)) := hC.1.cell_ rfl
    have z8 : W.cell? ⟨w.heap.size, 8, none⟩ = some (.int .u8 (bs : Int)) := hC.1.cell_ rfl
    have hgl := hC.2.2.1.lt
    go_simp
    all_goals exact ⟨Below.refl _ _, rfl⟩
  case' ny2 =>
    go_simp
    refine hK _ ?_
    clear hK K
  apply relWalk_ex rfl ?oy3 (fun K hK => ?ny3)
  case oy3 =>
    intro W hC hF
    have z2 : W.cell? ⟨w.heap.size, 2, none⟩ = some (.int .i32 at_) := hC.1.cell_ rfl
    have z6 : W.cell? ⟨w.heap.size, 6, none⟩ = some (.int .u16 (yr : Int)) := hC.1.cell_ rfl
    have z7 : W.cell? ⟨w.heap.size, 7, none⟩ = some (.int .u8 (mo : Int)) := hC.1.cell_ rfl
    have z8 : W.cell? ⟨w.heap.size, 8, none⟩ = some (.int .u8 (bs : Int)) := hC.1.cell_ rfl
    have hgl := hC.2.2.1.lt
    go_simp
    all_goals exact ⟨Below.refl _ _, rfl⟩
  case' ny3 =>
    go_simp
    refine hK _ ?_
    clear hK K
  apply relWalk_ex rfl ?oy4 (fun K hK => ?ny4)
  case oy4 =>
    intro W hC hF
    have z2 : W.cell? ⟨w.heap.size, 2, none⟩ = some (.int .i32 at_) := hC.1.cell_ rfl
    have z6 : W.cell? ⟨w.heap.size, 6, none⟩ = some (.int .u16 (yr : Int)) := hC.1.cell_ rfl
    have z7 : W.cell? ⟨w.heap.size, 7, none⟩ = some (.int .u8 (mo : Int)) := hC.1.cell_ rfl
    have z8 : W.cell? ⟨w.heap.size, 8, none⟩ = some (.int .u8 (bs : Int)) := hC.1.cell_ rfl
    have hgl := hC.2.2.1.lt
    go_simp
    all_goals exact ⟨Below.refl _ _, rfl⟩
  case' ny4 =>
    go_simp
    refine hK _ ?_
    clear hK K
  apply relWalk_ex rfl ?oy5 (fun K hK => ?ny5)
  case oy5 =>
    intro W hC hF
    have z2 : W.cell? ⟨w.heap.size, 2, none⟩ = some (.int .i32 at_) := hC.1.cell_ rfl
    have z6 : W.cell? ⟨w.heap.size, 6, none⟩ = some (.int .u16 (yr : Int)) := hC.1.cell_ rfl
    have z7 : W.cell? ⟨w.heap.size, 7, none⟩ = some (.int .u8 (mo : Int)) := hC.1.cell_ rfl
    have z8 : W.cell? ⟨w.heap.size, 8, none⟩ = some (.int .u8 (bs : Int)) := hC.1.cell_ rfl
    have hgl := hC.2.2.1.lt
    go_simp
    all_goals exact ⟨Below.refl _ _, rfl⟩
  case' ny5 =>
    go_simp
    refine hK _ ?_
    clear hK K
  apply relWalk_ex rfl ?oy6 (fun K hK => ?ny6)
  case oy6 =>
    intro W hC hF
    have z2 : W.cell? ⟨w.heap.size, 2, none⟩ = some (.int .i32 at_) := hC.1.cell_ rfl
    have z6 : W.cell? ⟨w.heap.size, 6, none⟩ = some (.int .u16 (yr : Int)) := hC.1.cell_ rfl
    have z7 : W.cell? ⟨w.heap.size, 7, none⟩ = some (.int .u8 (mo : Int)) := hC.1.cell_ rfl
    have z8 : W.cell? ⟨w.heap.size, 8, none⟩ = some (.int .u8 (bs : Int)) := hC.1.cell_ rfl
    have hgl := hC.2.2.1.lt
    go_simp
    all_goals exact ⟨Below.refl _ _, rfl⟩
  case' ny6 =>
    go_simp
    refine hK _ ?_
    clear hK K
  apply relWalk_ex rfl ?oy7 (fun K hK => ?ny7)
  case oy7 =>
    intro W hC hF
    have z2 : W.cell? ⟨w.heap.size, 2, none⟩ = some (.int .i32 at_) := hC.1.cell_ rfl
    have z6 : W.cell? ⟨w.heap.size, 6, none⟩ = some (.int .u16 (yr : Int)) := hC.1.cell_ rfl
    have z7 : W.cell? ⟨w.heap.size, 7, none⟩ = some (.int .u8 (mo : Int)) := hC.1.cell_ rfl
    have z8 : W.cell? ⟨w.heap.size, 8, none⟩ = some (.int .u8 (bs : Int)) := hC.1.cell_ rfl
    have hgl := hC.2.2.1.lt
    go_simp
    all_goals exact ⟨Below.refl _ _, rfl⟩
  case' ny7 =>
    go_simp
    refine hK _ ?_
    clear hK K
  apply relWalk_ex rfl ?oy8 (fun K hK => ?ny8)
  case oy8 =>
    intro W hC hF
    have z2 : W.cell? ⟨w.heap.size, 2, none⟩ = some (.int .i32 at_) := hC.1.cell_ rfl
    have z6 : W.cell? ⟨w.heap.size, 6, none⟩ = some (.int .u16 (yr : Int)) := hC.1.cell_ rfl
    have z7 : W.cell? ⟨w.heap.size, 7, none⟩ = some (.int .u8 (mo : Int)) := hC.1.cell_ rfl
    have z8 : W.cell? ⟨w.heap.size, 8, none⟩ = some (.int .u8 (bs : Int)) := hC.1.cell_ rfl
    have hgl := hC.2.2.1.lt
    go_simp
    all_goals exact ⟨Below.refl _ _, rfl⟩
  case' ny8 =>
    go_simp
    refine hK _ ?_
    clear hK K
  apply relWalk_ex rfl ?oy9 (fun K hK => ?ny9)
  case oy9 =>
    intro W hC hF
    have z2 : W.cell? ⟨w.heap.size, 2, none⟩ = some (.int .i32 at_) := hC.1.cell_ rfl
    have z6 : W.cell? ⟨w.heap.size, 6, none⟩ = some (.int .u16 (yr : Int)) := hC.1.cell_ rfl
    have z7 : W.cell? ⟨w.heap.size, 7, none⟩ = some (.int .u8 (mo : Int)) := hC.1.cell_ rfl
    have z8 : W.cell? ⟨w.heap.size, 8, none⟩ = some (.int .u8 (bs : Int)) := hC.1.cell_ rfl
    have hgl := hC.2.2.1.lt
    go_simp
    all_goals exact ⟨Below.refl _ _, rfl⟩
  case' ny9 =>
    go_simp
    refine hK _ ?_
    clear hK K
  apply relWalk_ex rfl ?oy10 (fun K hK => ?ny10)
  case oy10 =>
    intro W hC hF
    have z2 : W.cell? ⟨w.heap.size, 2, none⟩ = some (.int .i32 at_) := hC.1.cell_ rfl
    have z6 : W.cell? ⟨w.heap.size, 6, none⟩ = some (.int .u16 (yr : Int)) := hC.1.cell_ rfl
    have z7 : W.cell? ⟨w.heap.size, 7, none⟩ = some (.int .u8 (mo : Int)) := hC.1.cell_ rfl
    have z8 : W.cell? ⟨w.heap.size, 8, none⟩ = some (.int .u8 (bs : Int)) := hC.1.cell_ rfl
    have hgl := hC.2.2.1.lt
    go_simp
    all_goals exact ⟨Below.refl _ _, rfl⟩
  case' ny10 =>
    go_simp
    refine hK _ ?_
    clear hK K
  apply relWalk_ex rfl ?oy11 (fun K hK => ?ny11)
  case oy11 =>
    intro W hC hF
    exact relAt_load_arr 64 (.tmp 50) rfl w.heap.size 9 rfl #[.int .u8 (dk : Int), .int .u8 (dw : Int), .int .u8 (dd : Int)] _ (fun q v hv => by match q, hv with | 0, hv => cases hv; exact hC.1.cell_ rfl | 1, hv => cases hv; exact hC.1.cell_ rfl | 2, hv => cases hv; exact hC.1.cell_ rfl | q + 3, hv => simp at hv) Tryz.underlying64 rfl (by kernel_rfl)
  case' ny11 =>
    go_simp
    refine hK _ ?_
    clear hK K
  apply relWalk_ex rfl ?oy12 (fun K hK => ?ny12)
  case oy12 =>
    intro W hC hF
    have z2 : W.cell? ⟨w.heap.size, 2, none⟩ = some (.int .i32 at_) := hC.1.cell_ rfl
    have z6 : W.cell? ⟨w.heap.size, 6, none⟩ = some (.int .u16 (yr : Int)) := hC.1.cell_ rfl
    have z7 : W.cell? ⟨w.heap.size, 7, none⟩ = some (.int .u8 (mo : Int)) := hC.1.cell_ rfl
    have z8 : W.cell? ⟨w.heap.size, 8, none⟩ = some (.int .u8 (bs : Int)) := hC.1.cell_ rfl
    have hgl := hC.2.2.1.lt
    go_simp
    all_goals exact (H2.out W).mono fun e w2 ⟨he, hb⟩ => ⟨he, hb⟩
  case' ny12 =>
    go_simp
    refine hK _ ?_
    clear hK K
  apply relWalk_ex rfl ?oy13 (fun K hK => ?ny13)
  case oy13 =>
    intro W hC hF
    have z2 : W.cell? ⟨w.heap.size, 2, none⟩ = some (.int .i32 at_) := hC.1.cell_ rfl
    have z6 : W.cell? ⟨w.heap.size, 6, none⟩ = some (.int .u16 (yr : Int)) := hC.1.cell_ rfl
    have z7 : W.cell? ⟨w.heap.size, 7, none⟩ = some (.int .u8 (mo : Int)) := hC.1.cell_ rfl
    have z8 : W.cell? ⟨w.heap.size, 8, none⟩ = some (.int .u8 (bs : Int)) := hC.1.cell_ rfl
    have hgl := hC.2.2.1.lt
    go_simp
    all_goals exact ⟨Below.refl _ _, rfl⟩
  case' ny13 =>
    go_simp
    refine hK _ ?_
    clear hK K
  apply relWalk_ex rfl ?oy14 (fun K hK => ?ny14)
  case oy14 =>
    intro W hC hF
    have z2 : W.cell? ⟨w.heap.size, 2, none⟩ = some (.int .i32 at_) := hC.1.cell_ rfl
    have z6 : W.cell? ⟨w.heap.size, 6, none⟩ = some (.int .u16 (yr : Int)) := hC.1.cell_ rfl
    have z7 : W.cell? ⟨w.heap.size, 7, none⟩ = some (.int .u8 (mo : Int)) := hC.1.cell_ rfl
    have z8 : W.cell? ⟨w.heap.size, 8, none⟩ = some (.int .u8 (bs : Int)) := hC.1.cell_ rfl
    have hgl := hC.2.2.1.lt
    go_simp
    all_goals exact ⟨Below.refl _ _, rfl⟩
  case' ny14 =>
    go_simp
    refine hK _ ?_
    clear hK K
  apply relWalk_ex rfl ?oy15 (fun K hK => ?ny15)
  case oy15 =>
    intro W hC hF
    have z2 : W.cell? ⟨w.heap.size, 2, none⟩ = some (.int .i32 at_) := hC.1.cell_ rfl
    have z6 : W.cell? ⟨w.heap.size, 6, none⟩ = some (.int .u16 (yr : Int)) := hC.1.cell_ rfl
    have z7 : W.cell? ⟨w.heap.size, 7, none⟩ = some (.int .u8 (mo : Int)) := hC.1.cell_ rfl
    have z8 : W.cell? ⟨w.heap.size, 8, none⟩ = some (.int .u8 (bs : Int)) := hC.1.cell_ rfl
    have hgl := hC.2.2.1.lt
    go_simp
    all_goals exact ⟨Below.refl _ _, rfl⟩
  case' ny15 =>
    go_simp
    refine hK _ ?_
    clear hK K
  apply relWalk_ex rfl ?oy16 (fun K hK => ?ny16)
  case oy16 =>
    intro W hC hF
    have z2 : W.cell? ⟨w.heap.size, 2, none⟩ = some (.int .i32 at_) := hC.1.cell_ rfl
    have z6 : W.cell? ⟨w.heap.size, 6, none⟩ = some (.int .u16 (yr : Int)) := hC.1.cell_ rfl
    have z7 : W.cell? ⟨w.heap.size, 7, none⟩ = some (.int .u8 (mo : Int)) := hC.1.cell_ rfl
    have z8 : W.cell? ⟨w.heap.size, 8, none⟩ = some (.int .u8 (bs : Int)) := hC.1.cell_ rfl
    have hgl := hC.2.2.1.lt
    go_simp
    all_goals exact ⟨Below.refl _ _, rfl⟩
  case' ny16 =>
    go_simp
    refine hK _ ?_
    clear hK K
  apply relWalk_ex rfl ?oy17 (fun K hK => ?ny17)
  case oy17 =>
    intro W hC hF
    have z2 : W.cell? ⟨w.heap.size, 2, none⟩ = some (.int .i32 at_) := hC.1.cell_ rfl
    have z6 : W.cell? ⟨w.heap.size, 6, none⟩ = some (.int .u16 (yr : Int)) := hC.1.cell_ rfl
    have z7 : W.cell? ⟨w.heap.size, 7, none⟩ = some (.int .u8 (mo : Int)) := hC.1.cell_ rfl
    have z8 : W.cell? ⟨w.heap.size, 8, none⟩ = some (.int .u8 (bs : Int)) := hC.1.cell_ rfl
    have hgl := hC.2.2.1.lt
    go_simp
    all_goals exact (H6.out W).mono fun e w2 ⟨he, hb⟩ => ⟨he, hb⟩
  case' ny17 =>
    go_simp
    refine hK _ ?_
    clear hK K
  apply relWalk_ex rfl ?oy18 (fun K hK => ?ny18)
  case oy18 =>
    intro W hC hF
    have z2 : W.cell? ⟨w.heap.size, 2, none⟩ = some (.int .i32 at_) := hC.1.cell_ rfl
    have z6 : W.cell? ⟨w.heap.size, 6, none⟩ = some (.int .u16 (yr : Int)) := hC.1.cell_ rfl
    have z7 : W.cell? ⟨w.heap.size, 7, none⟩ = some (.int .u8 (mo : Int)) := hC.1.cell_ rfl
    have z8 : W.cell? ⟨w.heap.size, 8, none⟩ = some (.int .u8 (bs : Int)) := hC.1.cell_ rfl
    have hgl := hC.2.2.1.lt
    go_simp
    all_goals exact ⟨Below.refl _ _, rfl⟩
  case' ny18 =>
    go_simp
    refine hK _ ?_
    clear hK K
  apply relWalk_ex rfl ?oy19 (fun K hK => ?ny19)
  case oy19 =>
    intro W hC hF
    have z2 : W.cell? ⟨w.heap.size, 2, none⟩ = some (.int .i32 at_) := hC.1.cell_ rfl
    have z6 : W.cell? ⟨w.heap.size, 6, none⟩ = some (.int .u16 (yr : Int)) := hC.1.cell_ rfl
    have z7 : W.cell? ⟨w.heap.size, 7, none⟩ = some (.int .u8 (mo : Int)) := hC.1.cell_ rfl
    have z8 : W.cell? ⟨w.heap.size, 8, none⟩ = some (.int .u8 (bs : Int)) := hC.1.cell_ rfl
    have hgl := hC.2.2.1.lt
    go_simp
    all_goals exact ⟨Below.refl _ _, rfl⟩
  case' ny19 =>
    go_simp
    refine hK _ ?_
    clear hK K
  apply relWalk_end
  intro W hC hF hU
  have HC := Lib.hid hC
  clear hC hU hF HB3
  have q5 : W.cell? ⟨g, 5, none⟩ = some (.bool false) := HC.out.2.2.1.cell_ rfl
  have f5 := HC.out.2.2.1.frozen 5
  have q6 : W.cell? ⟨g, 6, none⟩ = some (.int .i64 0) := HC.out.2.2.1.cell_ rfl
  have f6 := HC.out.2.2.1.frozen 6
  have q7 : W.cell? ⟨g, 7, none⟩ = some (.int .i64 0) := HC.out.2.2.1.cell_ rfl
  have f7 := HC.out.2.2.1.frozen 7
  have q8 : W.cell? ⟨g, 8, none⟩ = some (.int .i64 0) := HC.out.2.2.1.cell_ rfl
  have f8 := HC.out.2.2.1.frozen 8
  have q9 : W.cell? ⟨g, 9, none⟩ = some (.int .i64 0) := HC.out.2.2.1.cell_ rfl
  have f9 := HC.out.2.2.1.frozen 9
  have q10 : W.cell? ⟨g, 10, none⟩ = some (.int .i64 0) := HC.out.2.2.1.cell_ rfl
  have f10 := HC.out.2.2.1.frozen 10
  have q11 : W.cell? ⟨g, 11, none⟩ = some (.int .i64 0) := HC.out.2.2.1.cell_ rfl
  have f11 := HC.out.2.2.1.frozen 11
  have q12 : W.cell? ⟨g, 12, none⟩ = some (.int .i64 0) := HC.out.2.2.1.cell_ rfl
  have f12 := HC.out.2.2.1.frozen 12
  have hlt := HC.out.2.2.1.lt
  obtain ⟨w5, hw5⟩ : ∃ Wz, ((((((((W.setCell ⟨g, 5, none⟩ (.bool true)).setCell ⟨g, 6, none⟩ (.int .i64 (1850 + (yr : Int) % 300))).setCell ⟨g, 7, none⟩ (.int .i64 (1 + (mo : Int) % 12))).setCell ⟨g, 8, none⟩ (.int .i64 m1)).setCell ⟨g, 9, none⟩ (.int .i64 m2)).setCell ⟨g, 10, none⟩ (.int .i64 m3)).setCell ⟨g, 11, none⟩ (.int .i64 (at_.tmod 604800))).setCell ⟨g, 12, none⟩ (.int .i64 ((bs : Int) % 3))) = Wz := ⟨_, rfl⟩
  have HB5 := Lib.hid (show Blk w5 w.heap.size 66 #[.int .i32 off, .int .i32 sv, .int .i32 at_, .int .u8 (kd : Int), .int .u8 (st : Int), .int .u8 (fm : Int), .int .u16 (yr : Int), .int .u8 (mo : Int), .int .u8 (bs : Int), .int .u8 (dk : Int), .int .u8 (dw : Int), .int .u8 (dd : Int)] ∧ Blk w5 (w.heap.size + 1) 55 #[.int .i64 0, .int .i64 0, .int .i64 0, .string ⟨#[]⟩, .string ⟨#[]⟩, .bool false, .int .i64 0, .int .i64 0, .int .i64 0, .int .i64 0, .int .i64 0, .int .i64 0, .int .i64 0] ∧ Blk w5 g 55 #[.int .i64 (off.tmod 604800), .int .i64 ((kd : Int) % 3), .int .i64 0, .string sS, .string sF, .bool true, .int .i64 (1850 + (yr : Int) % 300), .int .i64 (1 + (mo : Int) % 12), .int .i64 m1, .int .i64 m2, .int .i64 m3, .int .i64 (at_.tmod 604800), .int .i64 ((bs : Int) % 3)] ∧ Below w.heap.size w w5 ∧ w.heap.size + 2 ≤ g from by
    rw [← hw5]
    have hg := HC.out.2.2.2.2
    exact ⟨Blk.farSets HC.out.1 (by omega) [.bool true, .int .i64 (1850 + (yr : Int) % 300), .int .i64 (1 + (mo : Int) % 12), .int .i64 m1, .int .i64 m2, .int .i64 m3, .int .i64 (at_.tmod 604800), .int .i64 ((bs : Int) % 3)] 5, Blk.farSets HC.out.2.1 (by omega) [.bool true, .int .i64 (1850 + (yr : Int) % 300), .int .i64 (1 + (mo : Int) % 12), .int .i64 m1, .int .i64 m2, .int .i64 m3, .int .i64 (at_.tmod 604800), .int .i64 ((bs : Int) % 3)] 5, Blk.setMid [.int .i64 (off.tmod 604800), .int .i64 ((kd : Int) % 3), .int .i64 0, .string sS, .string sF] [.bool false, .int .i64 0, .int .i64 0, .int .i64 0, .int .i64 0, .int .i64 0, .int .i64 0, .int .i64 0] [.bool true, .int .i64 (1850 + (yr : Int) % 300), .int .i64 (1 + (mo : Int) % 12), .int .i64 m1, .int .i64 m2, .int .i64 m3, .int .i64 (at_.tmod 604800), .int .i64 ((bs : Int) % 3)] [] HC.out.2.2.1 rfl, below_sets (by omega) [.bool true, .int .i64 (1850 + (yr : Int) % 300), .int .i64 (1 + (mo : Int) % 12), .int .i64 m1, .int .i64 m2, .int .i64 m3, .int .i64 (at_.tmod 604800), .int .i64 ((bs : Int) % 3)] 5 _ HC.out.2.2.2.1, hg⟩)
  go_upto_region 9 with fail
  try simp only [hw5]
  clear hw5 HC q5 f5 q6 f6 q7 f7 q8 f8 q9 f9 q10 f10 q11 f11 q12 f12 hlt
  obtain ⟨C, hCC⟩ : ∃ C : Array Value, #[.int .i64 (off.tmod 604800), .int .i64 ((kd : Int) % 3), .int .i64 0, .string sS, .string sF, .bool true, .int .i64 (1850 + (yr : Int) % 300), .int .i64 (1 + (mo : Int) % 12), .int .i64 m1, .int .i64 m2, .int .i64 m3, .int .i64 (at_.tmod 604800), .int .i64 ((bs : Int) % 3)] = C := ⟨_, rfl⟩
  have Hi := Lib.hid (show (Tryz.prog.info? 55).map (·.size) = some C.size ∧ C.all (·.oneCell') = true ∧ C.size = 13 from hCC ▸ ⟨infoEra, by simp [Value.oneCell'], rfl⟩)
  rw [hCC] at HB5
  have HCC := Lib.hid hCC
  clear hCC
  go_wp2_with (first
    | (refine wpList_load_row rfl 55 (.tmp 5) rfl g rfl 55 C (0, 0) _ HB5.out.2.2.1 Tryz.underlying55 rfl Hi.out.1 ?_)
    | (refine wpList_store_mid rfl 55 (.tmp 4) (.tmp 60) rfl (w.heap.size + 1) 0 C rfl rfl (HB5.out.2.1.there (by rw [Hi.out.2.2]; decide)) Hi.out.1 Hi.out.2.1 ?_))
  exact bodyPost_ret (results_cell_row rfl _ _ (w.heap.size + 1) 55 C (0, 0) _ rfl (HB5.out.2.1.setAll C Hi.out.2.2) Tryz.underlying55 rfl Hi.out.1) rfl ⟨by rw [← HCC.out], below_sets (by omega) _ _ _ HB5.out.2.2.2.1⟩

structure DraftE where
  off : Int
  sv : Int
  at_ : Int
  kd : Nat
  st : Nat
  fm : Nat
  yr : Nat
  mo : Nat
  bs : Nat
  dk : Nat
  dw : Nat
  dd : Nat
def DraftE.cells (d : DraftE) : Array Value := #[.int .i32 d.off, .int .i32 d.sv, .int .i32 d.at_, .int .u8 (d.kd : Int), .int .u8 (d.st : Int), .int .u8 (d.fm : Int), .int .u16 (d.yr : Int), .int .u8 (d.mo : Int), .int .u8 (d.bs : Int), .int .u8 (d.dk : Int), .int .u8 (d.dw : Int), .int .u8 (d.dd : Int)]
structure DraftE.Ok (d : DraftE) : Prop where
  off : -2147483648 ≤ d.off ∧ d.off ≤ 2147483647
  sv : -2147483648 ≤ d.sv ∧ d.sv ≤ 2147483647
  at_ : -2147483648 ≤ d.at_ ∧ d.at_ ≤ 2147483647
  kd : d.kd < 256
  st : d.st < 256
  fm : d.fm < 256
  yr : d.yr < 65536
  mo : d.mo < 256
  bs : d.bs < 256
  dk : d.dk < 256
  dw : d.dw < 256
  dd : d.dd < 256
def DraftE.era (d : DraftE) (en : Bool) : EraP := eraM en d.off d.sv d.at_ d.kd d.st d.fm d.yr d.mo d.bs d.dk d.dw d.dd
theorem DraftE.right (d : DraftE) (en : Bool) : EraRight (d.era en) := eraM_right _ _ _ _ _ _ _ _ _ _ _ _ _
theorem DraftE.is_ (d : DraftE) (en : Bool) : (d.era en).til.is = en := eraM_is _ _ _ _ _ _ _ _ _ _ _ _ _
theorem emade14_any (d : DraftE) (h : d.Ok) (en : Bool) (w : World) : Calls Tryz.prog 21 #[.agg d.cells, .bool en] w fun e w' => e = .returned (.agg (d.era en).cells) ∧ Below w.heap.size w w' := by
  obtain ⟨off, sv, at_, kd, st, fm, yr, mo, bs, dk, dw, dd⟩ := d
  obtain ⟨h_off, h_sv, h_at_, h_kd, h_st, h_fm, h_yr, h_mo, h_bs, h_dk, h_dw, h_dd⟩ := h
  simp only at h_off h_sv h_at_ h_kd h_st h_fm h_yr h_mo h_bs h_dk h_dw h_dd
  have H2 := Lib.hid (fun W => made2_any dk dw dd W h_dk h_dw h_dd)
  have H6 := Lib.hid (fun W => made6_any at_ bs W h_at_ h_bs)
  obtain ⟨sF, hsF⟩ := asBl' (efmtM fm)
  obtain ⟨sS, hsS⟩ := asBl' (nameM st)
  obtain ⟨⟨m1, m2, m3⟩, hm⟩ : ∃ m, dayM dk dw dd = m := ⟨_, rfl⟩
  rw [hm] at H2
  have eF : (⟨(efmtM fm).toArray⟩ : ByteArray) = sF := ba_eq' hsF
  have eS : (⟨(nameM st).toArray⟩ : ByteArray) = sS := ba_eq' hsS
  simp only [DraftE.cells, DraftE.era, eraM, etilM, EraP.cells, UntilP.none, hm, eF]
  rcases (by omega : kd % 3 = 0 ∨ kd % 3 = 1 ∨ kd % 3 = 2) with hk | hk | hk <;> cases en
  · simpa [hk, eS, UntilP.none] using emade_0_0 off sv at_ kd st fm yr mo bs dk dw dd m1 m2 m3 sF sS w h_off h_sv h_kd h_st h_fm h_yr h_mo hk hsF hsS H2 H6
  · simpa [hk, eS, UntilP.none] using emade_0_1 off sv at_ kd st fm yr mo bs dk dw dd m1 m2 m3 sF sS w h_off h_sv h_kd h_st h_fm h_yr h_mo hk hsF hsS H2 H6
  · simpa [hk, eS, UntilP.none] using emade_1_0 off sv at_ kd st fm yr mo bs dk dw dd m1 m2 m3 sF sS w h_off h_sv h_kd h_st h_fm h_yr h_mo hk hsF hsS H2 H6
  · simpa [hk, eS, UntilP.none] using emade_1_1 off sv at_ kd st fm yr mo bs dk dw dd m1 m2 m3 sF sS w h_off h_sv h_kd h_st h_fm h_yr h_mo hk hsF hsS H2 H6
  · simpa [hk, eS, UntilP.none] using emade_2_0 off sv at_ kd st fm yr mo bs dk dw dd m1 m2 m3 sF sS w h_off h_sv h_kd h_st h_fm h_yr h_mo hk hsF hsS H2 H6
  · simpa [hk, eS, UntilP.none] using emade_2_1 off sv at_ kd st fm yr mo bs dk dw dd m1 m2 m3 sF sS w h_off h_sv h_kd h_st h_fm h_yr h_mo hk hsF hsS H2 H6
end Go.Proofs.YtmcgbjjcpcgcfaaGreatDoor
