/-
  The law EralineBack: what the call returns.
-/
import Derived.Test.YtbdmieelokmhiaaGreatDoorEraMade3
set_option linter.unusedVariables false
namespace Go.Proofs.YtbdmieelokmhiaaGreatDoor
open Go.RowKit

set_option maxRecDepth 100000 in
set_option maxHeartbeats 2000000 in
theorem eback_same (D E : Array Value) (off kd sv : Int) (sn sf : ByteArray) (is : Bool) (y m d1 d2 d3 h1 h2 : Int) (T : ByteArray) (w : World) (hD : (Tryz.prog.info? 43).map (·.size) = some D.size) (hE : (Tryz.prog.info? 43).map (·.size) = some E.size)
    (HM1 : Hid (∀ W, Calls Tryz.prog 15 #[.agg D] W fun e w' => e = .returned (.agg #[.int .i64 off, .int .i64 kd, .int .i64 sv, .string sn, .string sf, .bool is, .int .i64 y, .int .i64 m, .int .i64 d1, .int .i64 d2, .int .i64 d3, .int .i64 h1, .int .i64 h2]) ∧ Below W.heap.size W w'))
    (HM2 : Hid (∀ W, Calls Tryz.prog 15 #[.agg E] W fun e w' => e = .returned (.agg #[.int .i64 off, .int .i64 kd, .int .i64 sv, .string sn, .string sf, .bool is, .int .i64 y, .int .i64 m, .int .i64 d1, .int .i64 d2, .int .i64 d3, .int .i64 h1, .int .i64 h2]) ∧ Below W.heap.size W w'))
    (HP1 : Hid (∀ W, Below w.heap.size w W → Calls Tryz.prog 13 #[.agg #[.int .i64 off, .int .i64 kd, .int .i64 sv, .string sn, .string sf, .bool is, .int .i64 y, .int .i64 m, .int .i64 d1, .int .i64 d2, .int .i64 d3, .int .i64 h1, .int .i64 h2]] W fun e w' => e = .returned (.tuple #[.string T, .int .i64 0]) ∧ Below W.heap.size W w'))
    (HP2 : Hid (∀ W, Below w.heap.size w W → Calls Tryz.prog 13 #[.agg #[.int .i64 off, .int .i64 kd, .int .i64 sv, .string sn, .string sf, .bool is, .int .i64 y, .int .i64 m, .int .i64 d1, .int .i64 d2, .int .i64 d3, .int .i64 h1, .int .i64 h2]] W fun e w' => e = .returned (.tuple #[.string T, .int .i64 0]) ∧ Below W.heap.size W w'))
    (HWo : Hid (∀ W, Below w.heap.size w W → Calls Tryz.prog 16 #[.string T, .string ⟨#[32]⟩] W fun e w' => (∃ g n : Nat, e = .returned (.slice (some ⟨g, 0, none⟩) n n) ∧ Hid (Calls Tryz.prog 11 #[.slice (some ⟨g, 0, none⟩) n n] w' fun e w2 => e = .returned (.tuple #[.agg #[.int .i64 off, .int .i64 kd, .int .i64 sv, .string sn, .string sf, .bool is, .int .i64 y, .int .i64 m, .int .i64 d1, .int .i64 d2, .int .i64 d3, .int .i64 h1, .int .i64 h2], .int .i64 0]) ∧ Below w'.heap.size w' w2)) ∧ Below W.heap.size W w'))
    (HW : Hid (∀ W, Below w.heap.size w W → Calls Tryz.prog 10 #[] W fun e w' => e = .returned (.bool true) ∧ Below W.heap.size W w')) :
    Calls Tryz.prog 5 #[.agg D, .agg E] w fun e w' => e = .returned (.bool true) ∧ Below w.heap.size w w' := by
  go_enter Tryz.func5, Tryz.ntmps5
  go_upto_region 1 with fail
  have HG : E2Held w D E ((w.alloc (.cells D 43)).alloc (.cells E 43)) := ⟨(Blk.new' _ _ _ rfl).alloc _, Blk.new' _ _ _ (by simp), by go_grown⟩
  refine wp_region_rels 6 [[], [], [], [], [], []] [Form.val, Form.val, Form.val, Form.val, Form.new (NewEra (w.heap.size + 2)), Form.new (NewEra (w.heap.size + 2))] (E2Held w D E) (by kernel_rfl) (by kernel_rfl) rfl rfl (⟨HG.1, HG.2.1, HG.2.2.drew⟩) (fun W W' h hb => ⟨h.1.below hb h.1.lt, h.2.1.below hb h.2.1.lt, h.2.2.trans (hb.mono h.2.2.size)⟩) ⟨NewEra.lasts _, NewEra.lasts _, trivial⟩ ?_
  repeat (first | apply exSpec_rel | apply exSpec_new | apply exSpec_val)
  apply relWalk_ex rfl ?o0 (fun K hK => ?n0)
  case o0 =>
    intro W hC hF
    exact relAt_load 43 (.tmp 2) rfl w.heap.size rfl 43 D _ hC.1 Tryz.underlying43 rfl hD
  case' n0 =>
    go_simp
    refine hK _ ?_
    clear hK K
  apply relWalk_ex rfl ?o1 (fun K hK => ?n1)
  case o1 =>
    intro W hC hF
    go_simp
    all_goals exact (HM1.out W).mono fun e w' ⟨he, hb⟩ => ⟨he, hb⟩
  case' n1 =>
    go_simp
    refine hK _ ?_
    clear hK K
  apply relWalk_ex rfl ?o2 (fun K hK => ?n2)
  case o2 =>
    intro W hC hF
    exact relAt_load 43 (.tmp 3) rfl (w.heap.size + 1) rfl 43 E _ hC.2.1 Tryz.underlying43 rfl hE
  case' n2 =>
    go_simp
    refine hK _ ?_
    clear hK K
  apply relWalk_ex rfl ?o3 (fun K hK => ?n3)
  case o3 =>
    intro W hC hF
    go_simp
    all_goals exact (HM2.out W).mono fun e w' ⟨he, hb⟩ => ⟨he, hb⟩
  case' n3 =>
    go_simp
    refine hK _ ?_
    clear hK K
  apply relWalk_new rfl ?o4 (fun u4 K hK => ?n4)
  case o4 =>
    intro W hC hF
    go_simp
    all_goals exact ⟨by go_grown, ⟨_, rfl, hC.2.1.lt, Blk.new _ _ _⟩, _, rfl, Nat.le_refl _, by simp⟩
  case' n4 =>
    go_simp
    refine hK _ ?_
    clear hK K
  apply relWalk_new rfl ?o5 (fun u5 K hK => ?n5)
  case o5 =>
    intro W hC hF
    go_simp
    all_goals exact ⟨by go_grown, ⟨_, rfl, hC.2.1.lt, Blk.new _ _ _⟩, _, rfl, Nat.le_refl _, by simp⟩
  case' n5 =>
    go_simp
    refine hK _ ?_
    clear hK K
  apply relWalk_end
  intro W hC hF hU
  obtain ⟨⟨g6, rfl, hg6, hB6⟩, ⟨g5, rfl, hg5, hB5⟩, -⟩ := hF
  have hne : g6 ≠ g5 := fun h => by
    have := (List.pairwise_cons.1 hU).1 _ List.mem_cons_self
    exact this (by rw [h])
  obtain ⟨hDk, hEk, hbW⟩ := hC
  refine wpList_store_mid rfl 31 (.tmp 5) (.tmp 14) rfl g5 0 #[.int .i64 off, .int .i64 kd, .int .i64 sv, .string sn, .string sf, .bool is, .int .i64 y, .int .i64 m, .int .i64 d1, .int .i64 d2, .int .i64 d3, .int .i64 h1, .int .i64 h2] rfl rfl (hB5.there (Nat.le_refl _)) infoEra (by simp [Value.oneCell']) ?_
  refine wpList_store_mid rfl 31 (.tmp 6) (.tmp 16) rfl g6 0 #[.int .i64 off, .int .i64 kd, .int .i64 sv, .string sn, .string sf, .bool is, .int .i64 y, .int .i64 m, .int .i64 d1, .int .i64 d2, .int .i64 d3, .int .i64 h1, .int .i64 h2] rfl rfl ((Blk.farSets hB6 hne _ _).there (Nat.le_refl _)) infoEra (by simp [Value.oneCell']) ?_
  have HX := Lib.hid (show Blk ((W.setCells g5 0 #[.int .i64 off, .int .i64 kd, .int .i64 sv, .string sn, .string sf, .bool is, .int .i64 y, .int .i64 m, .int .i64 d1, .int .i64 d2, .int .i64 d3, .int .i64 h1, .int .i64 h2].toList).setCells g6 0 #[.int .i64 off, .int .i64 kd, .int .i64 sv, .string sn, .string sf, .bool is, .int .i64 y, .int .i64 m, .int .i64 d1, .int .i64 d2, .int .i64 d3, .int .i64 h1, .int .i64 h2].toList) g5 31 #[.int .i64 off, .int .i64 kd, .int .i64 sv, .string sn, .string sf, .bool is, .int .i64 y, .int .i64 m, .int .i64 d1, .int .i64 d2, .int .i64 d3, .int .i64 h1, .int .i64 h2] ∧ Blk ((W.setCells g5 0 #[.int .i64 off, .int .i64 kd, .int .i64 sv, .string sn, .string sf, .bool is, .int .i64 y, .int .i64 m, .int .i64 d1, .int .i64 d2, .int .i64 d3, .int .i64 h1, .int .i64 h2].toList).setCells g6 0 #[.int .i64 off, .int .i64 kd, .int .i64 sv, .string sn, .string sf, .bool is, .int .i64 y, .int .i64 m, .int .i64 d1, .int .i64 d2, .int .i64 d3, .int .i64 h1, .int .i64 h2].toList) g6 31 #[.int .i64 off, .int .i64 kd, .int .i64 sv, .string sn, .string sf, .bool is, .int .i64 y, .int .i64 m, .int .i64 d1, .int .i64 d2, .int .i64 d3, .int .i64 h1, .int .i64 h2] ∧ Below w.heap.size w ((W.setCells g5 0 #[.int .i64 off, .int .i64 kd, .int .i64 sv, .string sn, .string sf, .bool is, .int .i64 y, .int .i64 m, .int .i64 d1, .int .i64 d2, .int .i64 d3, .int .i64 h1, .int .i64 h2].toList).setCells g6 0 #[.int .i64 off, .int .i64 kd, .int .i64 sv, .string sn, .string sf, .bool is, .int .i64 y, .int .i64 m, .int .i64 d1, .int .i64 d2, .int .i64 d3, .int .i64 h1, .int .i64 h2].toList) from
    ⟨Blk.farSets (hB5.setAll #[.int .i64 off, .int .i64 kd, .int .i64 sv, .string sn, .string sf, .bool is, .int .i64 y, .int .i64 m, .int .i64 d1, .int .i64 d2, .int .i64 d3, .int .i64 h1, .int .i64 h2] rfl) (Ne.symm hne) _ _, (Blk.farSets hB6 hne _ _).setAll #[.int .i64 off, .int .i64 kd, .int .i64 sv, .string sn, .string sf, .bool is, .int .i64 y, .int .i64 m, .int .i64 d1, .int .i64 d2, .int .i64 d3, .int .i64 h1, .int .i64 h2] rfl, below_sets (by omega) _ _ _ (below_sets (by omega) _ _ _ hbW)⟩)
  generalize (W.setCells g5 0 #[.int .i64 off, .int .i64 kd, .int .i64 sv, .string sn, .string sf, .bool is, .int .i64 y, .int .i64 m, .int .i64 d1, .int .i64 d2, .int .i64 d3, .int .i64 h1, .int .i64 h2].toList).setCells g6 0 #[.int .i64 off, .int .i64 kd, .int .i64 sv, .string sn, .string sf, .bool is, .int .i64 y, .int .i64 m, .int .i64 d1, .int .i64 d2, .int .i64 d3, .int .i64 h1, .int .i64 h2].toList = w2 at *
  clear hDk hEk hbW hB5 hB6 HG hU hD hE HM1 HM2
  go_wp2_with (first | (refine wpList_load_row rfl 31 (.tmp 5) rfl g5 rfl 31 #[.int .i64 off, .int .i64 kd, .int .i64 sv, .string sn, .string sf, .bool is, .int .i64 y, .int .i64 m, .int .i64 d1, .int .i64 d2, .int .i64 d3, .int .i64 h1, .int .i64 h2] (0, 0) _ HX.out.1 Tryz.underlying31 rfl infoEra ?_) | fail)
  refine (HP1.out _ HX.out.2.2).mono ?_
  rintro e w3 ⟨rfl, hb⟩
  have HX3 := Lib.hid (show Blk w3 g5 31 #[.int .i64 off, .int .i64 kd, .int .i64 sv, .string sn, .string sf, .bool is, .int .i64 y, .int .i64 m, .int .i64 d1, .int .i64 d2, .int .i64 d3, .int .i64 h1, .int .i64 h2] ∧ Blk w3 g6 31 #[.int .i64 off, .int .i64 kd, .int .i64 sv, .string sn, .string sf, .bool is, .int .i64 y, .int .i64 m, .int .i64 d1, .int .i64 d2, .int .i64 d3, .int .i64 h1, .int .i64 h2] ∧ Below w.heap.size w w3 from ⟨HX.out.1.below hb HX.out.1.lt, HX.out.2.1.below hb HX.out.2.1.lt, HX.out.2.2.trans (hb.mono HX.out.2.2.size)⟩)
  clear HX hb HP1
  go_wp2_with (first | (refine wpList_load_row rfl 31 (.tmp 6) rfl g6 rfl 31 #[.int .i64 off, .int .i64 kd, .int .i64 sv, .string sn, .string sf, .bool is, .int .i64 y, .int .i64 m, .int .i64 d1, .int .i64 d2, .int .i64 d3, .int .i64 h1, .int .i64 h2] (0, 0) _ HX3.out.2.1 Tryz.underlying31 rfl infoEra ?_) | fail)
  refine (HP2.out _ HX3.out.2.2).mono ?_
  rintro e w4 ⟨rfl, hb⟩
  have HX4 := Lib.hid (show Blk w4 g5 31 #[.int .i64 off, .int .i64 kd, .int .i64 sv, .string sn, .string sf, .bool is, .int .i64 y, .int .i64 m, .int .i64 d1, .int .i64 d2, .int .i64 d3, .int .i64 h1, .int .i64 h2] ∧ Blk w4 g6 31 #[.int .i64 off, .int .i64 kd, .int .i64 sv, .string sn, .string sf, .bool is, .int .i64 y, .int .i64 m, .int .i64 d1, .int .i64 d2, .int .i64 d3, .int .i64 h1, .int .i64 h2] ∧ Below w.heap.size w w4 from ⟨HX3.out.1.below hb HX3.out.1.lt, HX3.out.2.1.below hb HX3.out.2.1.lt, HX3.out.2.2.trans (hb.mono HX3.out.2.2.size)⟩)
  clear HX3 hb HP2
  go_wp2_with fail
  refine (HWo.out _ HX4.out.2.2).mono ?_
  rintro e w5 ⟨⟨g, n, rfl, HV⟩, hb⟩
  have HX5 := Lib.hid (show Blk w5 g5 31 #[.int .i64 off, .int .i64 kd, .int .i64 sv, .string sn, .string sf, .bool is, .int .i64 y, .int .i64 m, .int .i64 d1, .int .i64 d2, .int .i64 d3, .int .i64 h1, .int .i64 h2] ∧ Blk w5 g6 31 #[.int .i64 off, .int .i64 kd, .int .i64 sv, .string sn, .string sf, .bool is, .int .i64 y, .int .i64 m, .int .i64 d1, .int .i64 d2, .int .i64 d3, .int .i64 h1, .int .i64 h2] ∧ Below w.heap.size w w5 from ⟨HX4.out.1.below hb HX4.out.1.lt, HX4.out.2.1.below hb HX4.out.2.1.lt, HX4.out.2.2.trans (hb.mono HX4.out.2.2.size)⟩)
  clear HX4 hb HWo
  go_wp2_with fail
  refine HV.out.mono ?_
  rintro e w6 ⟨rfl, hb⟩
  have HX6 := Lib.hid (show Blk w6 g5 31 #[.int .i64 off, .int .i64 kd, .int .i64 sv, .string sn, .string sf, .bool is, .int .i64 y, .int .i64 m, .int .i64 d1, .int .i64 d2, .int .i64 d3, .int .i64 h1, .int .i64 h2] ∧ Blk w6 g6 31 #[.int .i64 off, .int .i64 kd, .int .i64 sv, .string sn, .string sf, .bool is, .int .i64 y, .int .i64 m, .int .i64 d1, .int .i64 d2, .int .i64 d3, .int .i64 h1, .int .i64 h2] ∧ Below w.heap.size w w6 from ⟨HX5.out.1.below hb HX5.out.1.lt, HX5.out.2.1.below hb HX5.out.2.1.lt, HX5.out.2.2.trans (hb.mono HX5.out.2.2.size)⟩)
  clear HX5 hb HV
  have u0 : w6.cell? ⟨g5, 0, none⟩ = some (.int .i64 off) := HX6.out.1.cell_ rfl
  have u1 : w6.cell? ⟨g5, 1, none⟩ = some (.int .i64 kd) := HX6.out.1.cell_ rfl
  have u2 : w6.cell? ⟨g5, 2, none⟩ = some (.int .i64 sv) := HX6.out.1.cell_ rfl
  have u3 : w6.cell? ⟨g5, 3, none⟩ = some (.string sn) := HX6.out.1.cell_ rfl
  have u4 : w6.cell? ⟨g5, 4, none⟩ = some (.string sf) := HX6.out.1.cell_ rfl
  have u5 : w6.cell? ⟨g5, 5, none⟩ = some (.bool is) := HX6.out.1.cell_ rfl
  have u6 : w6.cell? ⟨g5, 6, none⟩ = some (.int .i64 y) := HX6.out.1.cell_ rfl
  have u7 : w6.cell? ⟨g5, 7, none⟩ = some (.int .i64 m) := HX6.out.1.cell_ rfl
  have u8 : w6.cell? ⟨g5, 8, none⟩ = some (.int .i64 d1) := HX6.out.1.cell_ rfl
  have u9 : w6.cell? ⟨g5, 9, none⟩ = some (.int .i64 d2) := HX6.out.1.cell_ rfl
  have u10 : w6.cell? ⟨g5, 10, none⟩ = some (.int .i64 d3) := HX6.out.1.cell_ rfl
  have u11 : w6.cell? ⟨g5, 11, none⟩ = some (.int .i64 h1) := HX6.out.1.cell_ rfl
  have u12 : w6.cell? ⟨g5, 12, none⟩ = some (.int .i64 h2) := HX6.out.1.cell_ rfl
  have v0 : w6.cell? ⟨g6, 0, none⟩ = some (.int .i64 off) := HX6.out.2.1.cell_ rfl
  have v1 : w6.cell? ⟨g6, 1, none⟩ = some (.int .i64 kd) := HX6.out.2.1.cell_ rfl
  have v2 : w6.cell? ⟨g6, 2, none⟩ = some (.int .i64 sv) := HX6.out.2.1.cell_ rfl
  have v3 : w6.cell? ⟨g6, 3, none⟩ = some (.string sn) := HX6.out.2.1.cell_ rfl
  have v4 : w6.cell? ⟨g6, 4, none⟩ = some (.string sf) := HX6.out.2.1.cell_ rfl
  have v5 : w6.cell? ⟨g6, 5, none⟩ = some (.bool is) := HX6.out.2.1.cell_ rfl
  have v6 : w6.cell? ⟨g6, 6, none⟩ = some (.int .i64 y) := HX6.out.2.1.cell_ rfl
  have v7 : w6.cell? ⟨g6, 7, none⟩ = some (.int .i64 m) := HX6.out.2.1.cell_ rfl
  have v8 : w6.cell? ⟨g6, 8, none⟩ = some (.int .i64 d1) := HX6.out.2.1.cell_ rfl
  have v9 : w6.cell? ⟨g6, 9, none⟩ = some (.int .i64 d2) := HX6.out.2.1.cell_ rfl
  have v10 : w6.cell? ⟨g6, 10, none⟩ = some (.int .i64 d3) := HX6.out.2.1.cell_ rfl
  have v11 : w6.cell? ⟨g6, 11, none⟩ = some (.int .i64 h1) := HX6.out.2.1.cell_ rfl
  have v12 : w6.cell? ⟨g6, 12, none⟩ = some (.int .i64 h2) := HX6.out.2.1.cell_ rfl
  have hl5 := HX6.out.1.lt
  have hl6 := HX6.out.2.1.lt
  go_wp2_with fail
  refine (HW.out _ (HX6.out.2.2.alloc HX6.out.2.2.size _)).mono ?_
  rintro e w7 ⟨rfl, hb7⟩
  have HX7 := Lib.hid ((HX6.out.2.2.alloc HX6.out.2.2.size _).trans (hb7.mono (HX6.out.2.2.alloc HX6.out.2.2.size _).size))
  clear HX6 hb7
  go_wp2_with fail
  go_ret
  exact ⟨rfl, HX7.out⟩

set_option maxRecDepth 100000 in
set_option maxHeartbeats 2000000 in
theorem eback_apart (D E : Array Value) (off kd sv : Int) (sn sf : ByteArray) (is : Bool) (y m d1 d2 d3 h1 h2 : Int) (off' kd' sv' : Int) (sn' sf' : ByteArray) (is' : Bool) (y' m' d1' d2' d3' h1' h2' : Int) (T T' : ByteArray) (w : World) (hD : (Tryz.prog.info? 43).map (·.size) = some D.size) (hE : (Tryz.prog.info? 43).map (·.size) = some E.size)
    (HM1 : Hid (∀ W, Calls Tryz.prog 15 #[.agg D] W fun e w' => e = .returned (.agg #[.int .i64 off, .int .i64 kd, .int .i64 sv, .string sn, .string sf, .bool is, .int .i64 y, .int .i64 m, .int .i64 d1, .int .i64 d2, .int .i64 d3, .int .i64 h1, .int .i64 h2]) ∧ Below W.heap.size W w'))
    (HM2 : Hid (∀ W, Calls Tryz.prog 15 #[.agg E] W fun e w' => e = .returned (.agg #[.int .i64 off', .int .i64 kd', .int .i64 sv', .string sn', .string sf', .bool is', .int .i64 y', .int .i64 m', .int .i64 d1', .int .i64 d2', .int .i64 d3', .int .i64 h1', .int .i64 h2']) ∧ Below W.heap.size W w'))
    (HP1 : Hid (∀ W, Below w.heap.size w W → Calls Tryz.prog 13 #[.agg #[.int .i64 off, .int .i64 kd, .int .i64 sv, .string sn, .string sf, .bool is, .int .i64 y, .int .i64 m, .int .i64 d1, .int .i64 d2, .int .i64 d3, .int .i64 h1, .int .i64 h2]] W fun e w' => e = .returned (.tuple #[.string T, .int .i64 0]) ∧ Below W.heap.size W w'))
    (HP2 : Hid (∀ W, Below w.heap.size w W → Calls Tryz.prog 13 #[.agg #[.int .i64 off', .int .i64 kd', .int .i64 sv', .string sn', .string sf', .bool is', .int .i64 y', .int .i64 m', .int .i64 d1', .int .i64 d2', .int .i64 d3', .int .i64 h1', .int .i64 h2']] W fun e w' => e = .returned (.tuple #[.string T', .int .i64 0]) ∧ Below W.heap.size W w'))
    (HWo : Hid (∀ W, Below w.heap.size w W → Calls Tryz.prog 16 #[.string T, .string ⟨#[32]⟩] W fun e w' => (∃ g n : Nat, e = .returned (.slice (some ⟨g, 0, none⟩) n n) ∧ Hid (Calls Tryz.prog 11 #[.slice (some ⟨g, 0, none⟩) n n] w' fun e w2 => e = .returned (.tuple #[.agg #[.int .i64 off, .int .i64 kd, .int .i64 sv, .string sn, .string sf, .bool is, .int .i64 y, .int .i64 m, .int .i64 d1, .int .i64 d2, .int .i64 d3, .int .i64 h1, .int .i64 h2], .int .i64 0]) ∧ Below w'.heap.size w' w2)) ∧ Below W.heap.size W w'))
    (HW : Hid (∀ W, Below w.heap.size w W → Calls Tryz.prog 10 #[] W fun e w' => e = .returned (.bool true) ∧ Below W.heap.size W w')) (hTT : (T.toList == T'.toList) = false) (HNE : Hid (off = off' → kd = kd' → sv = sv' → sn.toList = sn'.toList → sf.toList = sf'.toList → is = is' → y = y' → m = m' → d1 = d1' → d2 = d2' → d3 = d3' → h1 = h1' → h2 = h2' → False)) :
    Calls Tryz.prog 5 #[.agg D, .agg E] w fun e w' => e = .returned (.bool true) ∧ Below w.heap.size w w' := by
  go_enter Tryz.func5, Tryz.ntmps5
  go_upto_region 1 with fail
  have HG : E2Held w D E ((w.alloc (.cells D 43)).alloc (.cells E 43)) := ⟨(Blk.new' _ _ _ rfl).alloc _, Blk.new' _ _ _ (by simp), by go_grown⟩
  refine wp_region_rels 6 [[], [], [], [], [], []] [Form.val, Form.val, Form.val, Form.val, Form.new (NewEra (w.heap.size + 2)), Form.new (NewEra (w.heap.size + 2))] (E2Held w D E) (by kernel_rfl) (by kernel_rfl) rfl rfl (⟨HG.1, HG.2.1, HG.2.2.drew⟩) (fun W W' h hb => ⟨h.1.below hb h.1.lt, h.2.1.below hb h.2.1.lt, h.2.2.trans (hb.mono h.2.2.size)⟩) ⟨NewEra.lasts _, NewEra.lasts _, trivial⟩ ?_
  repeat (first | apply exSpec_rel | apply exSpec_new | apply exSpec_val)
  apply relWalk_ex rfl ?o0 (fun K hK => ?n0)
  case o0 =>
    intro W hC hF
    exact relAt_load 43 (.tmp 2) rfl w.heap.size rfl 43 D _ hC.1 Tryz.underlying43 rfl hD
  case' n0 =>
    go_simp
    refine hK _ ?_
    clear hK K
  apply relWalk_ex rfl ?o1 (fun K hK => ?n1)
  case o1 =>
    intro W hC hF
    go_simp
    all_goals exact (HM1.out W).mono fun e w' ⟨he, hb⟩ => ⟨he, hb⟩
  case' n1 =>
    go_simp
    refine hK _ ?_
    clear hK K
  apply relWalk_ex rfl ?o2 (fun K hK => ?n2)
  case o2 =>
    intro W hC hF
    exact relAt_load 43 (.tmp 3) rfl (w.heap.size + 1) rfl 43 E _ hC.2.1 Tryz.underlying43 rfl hE
  case' n2 =>
    go_simp
    refine hK _ ?_
    clear hK K
  apply relWalk_ex rfl ?o3 (fun K hK => ?n3)
  case o3 =>
    intro W hC hF
    go_simp
    all_goals exact (HM2.out W).mono fun e w' ⟨he, hb⟩ => ⟨he, hb⟩
  case' n3 =>
    go_simp
    refine hK _ ?_
    clear hK K
  apply relWalk_new rfl ?o4 (fun u4 K hK => ?n4)
  case o4 =>
    intro W hC hF
    go_simp
    all_goals exact ⟨by go_grown, ⟨_, rfl, hC.2.1.lt, Blk.new _ _ _⟩, _, rfl, Nat.le_refl _, by simp⟩
  case' n4 =>
    go_simp
    refine hK _ ?_
    clear hK K
  apply relWalk_new rfl ?o5 (fun u5 K hK => ?n5)
  case o5 =>
    intro W hC hF
    go_simp
    all_goals exact ⟨by go_grown, ⟨_, rfl, hC.2.1.lt, Blk.new _ _ _⟩, _, rfl, Nat.le_refl _, by simp⟩
  case' n5 =>
    go_simp
    refine hK _ ?_
    clear hK K
  apply relWalk_end
  intro W hC hF hU
  obtain ⟨⟨g6, rfl, hg6, hB6⟩, ⟨g5, rfl, hg5, hB5⟩, -⟩ := hF
  have hne : g6 ≠ g5 := fun h => by
    have := (List.pairwise_cons.1 hU).1 _ List.mem_cons_self
    exact this (by rw [h])
  obtain ⟨hDk, hEk, hbW⟩ := hC
  refine wpList_store_mid rfl 31 (.tmp 5) (.tmp 14) rfl g5 0 #[.int .i64 off, .int .i64 kd, .int .i64 sv, .string sn, .string sf, .bool is, .int .i64 y, .int .i64 m, .int .i64 d1, .int .i64 d2, .int .i64 d3, .int .i64 h1, .int .i64 h2] rfl rfl (hB5.there (Nat.le_refl _)) infoEra (by simp [Value.oneCell']) ?_
  refine wpList_store_mid rfl 31 (.tmp 6) (.tmp 16) rfl g6 0 #[.int .i64 off', .int .i64 kd', .int .i64 sv', .string sn', .string sf', .bool is', .int .i64 y', .int .i64 m', .int .i64 d1', .int .i64 d2', .int .i64 d3', .int .i64 h1', .int .i64 h2'] rfl rfl ((Blk.farSets hB6 hne _ _).there (Nat.le_refl _)) infoEra (by simp [Value.oneCell']) ?_
  have HX := Lib.hid (show Blk ((W.setCells g5 0 #[.int .i64 off, .int .i64 kd, .int .i64 sv, .string sn, .string sf, .bool is, .int .i64 y, .int .i64 m, .int .i64 d1, .int .i64 d2, .int .i64 d3, .int .i64 h1, .int .i64 h2].toList).setCells g6 0 #[.int .i64 off', .int .i64 kd', .int .i64 sv', .string sn', .string sf', .bool is', .int .i64 y', .int .i64 m', .int .i64 d1', .int .i64 d2', .int .i64 d3', .int .i64 h1', .int .i64 h2'].toList) g5 31 #[.int .i64 off, .int .i64 kd, .int .i64 sv, .string sn, .string sf, .bool is, .int .i64 y, .int .i64 m, .int .i64 d1, .int .i64 d2, .int .i64 d3, .int .i64 h1, .int .i64 h2] ∧ Blk ((W.setCells g5 0 #[.int .i64 off, .int .i64 kd, .int .i64 sv, .string sn, .string sf, .bool is, .int .i64 y, .int .i64 m, .int .i64 d1, .int .i64 d2, .int .i64 d3, .int .i64 h1, .int .i64 h2].toList).setCells g6 0 #[.int .i64 off', .int .i64 kd', .int .i64 sv', .string sn', .string sf', .bool is', .int .i64 y', .int .i64 m', .int .i64 d1', .int .i64 d2', .int .i64 d3', .int .i64 h1', .int .i64 h2'].toList) g6 31 #[.int .i64 off', .int .i64 kd', .int .i64 sv', .string sn', .string sf', .bool is', .int .i64 y', .int .i64 m', .int .i64 d1', .int .i64 d2', .int .i64 d3', .int .i64 h1', .int .i64 h2'] ∧ Below w.heap.size w ((W.setCells g5 0 #[.int .i64 off, .int .i64 kd, .int .i64 sv, .string sn, .string sf, .bool is, .int .i64 y, .int .i64 m, .int .i64 d1, .int .i64 d2, .int .i64 d3, .int .i64 h1, .int .i64 h2].toList).setCells g6 0 #[.int .i64 off', .int .i64 kd', .int .i64 sv', .string sn', .string sf', .bool is', .int .i64 y', .int .i64 m', .int .i64 d1', .int .i64 d2', .int .i64 d3', .int .i64 h1', .int .i64 h2'].toList) from
    ⟨Blk.farSets (hB5.setAll #[.int .i64 off, .int .i64 kd, .int .i64 sv, .string sn, .string sf, .bool is, .int .i64 y, .int .i64 m, .int .i64 d1, .int .i64 d2, .int .i64 d3, .int .i64 h1, .int .i64 h2] rfl) (Ne.symm hne) _ _, (Blk.farSets hB6 hne _ _).setAll #[.int .i64 off', .int .i64 kd', .int .i64 sv', .string sn', .string sf', .bool is', .int .i64 y', .int .i64 m', .int .i64 d1', .int .i64 d2', .int .i64 d3', .int .i64 h1', .int .i64 h2'] rfl, below_sets (by omega) _ _ _ (below_sets (by omega) _ _ _ hbW)⟩)
  generalize (W.setCells g5 0 #[.int .i64 off, .int .i64 kd, .int .i64 sv, .string sn, .string sf, .bool is, .int .i64 y, .int .i64 m, .int .i64 d1, .int .i64 d2, .int .i64 d3, .int .i64 h1, .int .i64 h2].toList).setCells g6 0 #[.int .i64 off', .int .i64 kd', .int .i64 sv', .string sn', .string sf', .bool is', .int .i64 y', .int .i64 m', .int .i64 d1', .int .i64 d2', .int .i64 d3', .int .i64 h1', .int .i64 h2'].toList = w2 at *
  clear hDk hEk hbW hB5 hB6 HG hU hD hE HM1 HM2
  go_wp2_with (first | (refine wpList_load_row rfl 31 (.tmp 5) rfl g5 rfl 31 #[.int .i64 off, .int .i64 kd, .int .i64 sv, .string sn, .string sf, .bool is, .int .i64 y, .int .i64 m, .int .i64 d1, .int .i64 d2, .int .i64 d3, .int .i64 h1, .int .i64 h2] (0, 0) _ HX.out.1 Tryz.underlying31 rfl infoEra ?_) | fail)
  refine (HP1.out _ HX.out.2.2).mono ?_
  rintro e w3 ⟨rfl, hb⟩
  have HX3 := Lib.hid (show Blk w3 g5 31 #[.int .i64 off, .int .i64 kd, .int .i64 sv, .string sn, .string sf, .bool is, .int .i64 y, .int .i64 m, .int .i64 d1, .int .i64 d2, .int .i64 d3, .int .i64 h1, .int .i64 h2] ∧ Blk w3 g6 31 #[.int .i64 off', .int .i64 kd', .int .i64 sv', .string sn', .string sf', .bool is', .int .i64 y', .int .i64 m', .int .i64 d1', .int .i64 d2', .int .i64 d3', .int .i64 h1', .int .i64 h2'] ∧ Below w.heap.size w w3 from ⟨HX.out.1.below hb HX.out.1.lt, HX.out.2.1.below hb HX.out.2.1.lt, HX.out.2.2.trans (hb.mono HX.out.2.2.size)⟩)
  clear HX hb HP1
  go_wp2_with (first | (refine wpList_load_row rfl 31 (.tmp 6) rfl g6 rfl 31 #[.int .i64 off', .int .i64 kd', .int .i64 sv', .string sn', .string sf', .bool is', .int .i64 y', .int .i64 m', .int .i64 d1', .int .i64 d2', .int .i64 d3', .int .i64 h1', .int .i64 h2'] (0, 0) _ HX3.out.2.1 Tryz.underlying31 rfl infoEra ?_) | fail)
  refine (HP2.out _ HX3.out.2.2).mono ?_
  rintro e w4 ⟨rfl, hb⟩
  have HX4 := Lib.hid (show Blk w4 g5 31 #[.int .i64 off, .int .i64 kd, .int .i64 sv, .string sn, .string sf, .bool is, .int .i64 y, .int .i64 m, .int .i64 d1, .int .i64 d2, .int .i64 d3, .int .i64 h1, .int .i64 h2] ∧ Blk w4 g6 31 #[.int .i64 off', .int .i64 kd', .int .i64 sv', .string sn', .string sf', .bool is', .int .i64 y', .int .i64 m', .int .i64 d1', .int .i64 d2', .int .i64 d3', .int .i64 h1', .int .i64 h2'] ∧ Below w.heap.size w w4 from ⟨HX3.out.1.below hb HX3.out.1.lt, HX3.out.2.1.below hb HX3.out.2.1.lt, HX3.out.2.2.trans (hb.mono HX3.out.2.2.size)⟩)
  clear HX3 hb HP2
  go_wp2_with fail
  refine (HWo.out _ HX4.out.2.2).mono ?_
  rintro e w5 ⟨⟨g, n, rfl, HV⟩, hb⟩
  have HX5 := Lib.hid (show Blk w5 g5 31 #[.int .i64 off, .int .i64 kd, .int .i64 sv, .string sn, .string sf, .bool is, .int .i64 y, .int .i64 m, .int .i64 d1, .int .i64 d2, .int .i64 d3, .int .i64 h1, .int .i64 h2] ∧ Blk w5 g6 31 #[.int .i64 off', .int .i64 kd', .int .i64 sv', .string sn', .string sf', .bool is', .int .i64 y', .int .i64 m', .int .i64 d1', .int .i64 d2', .int .i64 d3', .int .i64 h1', .int .i64 h2'] ∧ Below w.heap.size w w5 from ⟨HX4.out.1.below hb HX4.out.1.lt, HX4.out.2.1.below hb HX4.out.2.1.lt, HX4.out.2.2.trans (hb.mono HX4.out.2.2.size)⟩)
  clear HX4 hb HWo
  go_wp2_with fail
  refine HV.out.mono ?_
  rintro e w6 ⟨rfl, hb⟩
  have HX6 := Lib.hid (show Blk w6 g5 31 #[.int .i64 off, .int .i64 kd, .int .i64 sv, .string sn, .string sf, .bool is, .int .i64 y, .int .i64 m, .int .i64 d1, .int .i64 d2, .int .i64 d3, .int .i64 h1, .int .i64 h2] ∧ Blk w6 g6 31 #[.int .i64 off', .int .i64 kd', .int .i64 sv', .string sn', .string sf', .bool is', .int .i64 y', .int .i64 m', .int .i64 d1', .int .i64 d2', .int .i64 d3', .int .i64 h1', .int .i64 h2'] ∧ Below w.heap.size w w6 from ⟨HX5.out.1.below hb HX5.out.1.lt, HX5.out.2.1.below hb HX5.out.2.1.lt, HX5.out.2.2.trans (hb.mono HX5.out.2.2.size)⟩)
  clear HX5 hb HV
  have u0 : w6.cell? ⟨g5, 0, none⟩ = some (.int .i64 off) := HX6.out.1.cell_ rfl
  have u1 : w6.cell? ⟨g5, 1, none⟩ = some (.int .i64 kd) := HX6.out.1.cell_ rfl
  have u2 : w6.cell? ⟨g5, 2, none⟩ = some (.int .i64 sv) := HX6.out.1.cell_ rfl
  have u3 : w6.cell? ⟨g5, 3, none⟩ = some (.string sn) := HX6.out.1.cell_ rfl
  have u4 : w6.cell? ⟨g5, 4, none⟩ = some (.string sf) := HX6.out.1.cell_ rfl
  have u5 : w6.cell? ⟨g5, 5, none⟩ = some (.bool is) := HX6.out.1.cell_ rfl
  have u6 : w6.cell? ⟨g5, 6, none⟩ = some (.int .i64 y) := HX6.out.1.cell_ rfl
  have u7 : w6.cell? ⟨g5, 7, none⟩ = some (.int .i64 m) := HX6.out.1.cell_ rfl
  have u8 : w6.cell? ⟨g5, 8, none⟩ = some (.int .i64 d1) := HX6.out.1.cell_ rfl
  have u9 : w6.cell? ⟨g5, 9, none⟩ = some (.int .i64 d2) := HX6.out.1.cell_ rfl
  have u10 : w6.cell? ⟨g5, 10, none⟩ = some (.int .i64 d3) := HX6.out.1.cell_ rfl
  have u11 : w6.cell? ⟨g5, 11, none⟩ = some (.int .i64 h1) := HX6.out.1.cell_ rfl
  have u12 : w6.cell? ⟨g5, 12, none⟩ = some (.int .i64 h2) := HX6.out.1.cell_ rfl
  have v0 : w6.cell? ⟨g6, 0, none⟩ = some (.int .i64 off') := HX6.out.2.1.cell_ rfl
  have v1 : w6.cell? ⟨g6, 1, none⟩ = some (.int .i64 kd') := HX6.out.2.1.cell_ rfl
  have v2 : w6.cell? ⟨g6, 2, none⟩ = some (.int .i64 sv') := HX6.out.2.1.cell_ rfl
  have v3 : w6.cell? ⟨g6, 3, none⟩ = some (.string sn') := HX6.out.2.1.cell_ rfl
  have v4 : w6.cell? ⟨g6, 4, none⟩ = some (.string sf') := HX6.out.2.1.cell_ rfl
  have v5 : w6.cell? ⟨g6, 5, none⟩ = some (.bool is') := HX6.out.2.1.cell_ rfl
  have v6 : w6.cell? ⟨g6, 6, none⟩ = some (.int .i64 y') := HX6.out.2.1.cell_ rfl
  have v7 : w6.cell? ⟨g6, 7, none⟩ = some (.int .i64 m') := HX6.out.2.1.cell_ rfl
  have v8 : w6.cell? ⟨g6, 8, none⟩ = some (.int .i64 d1') := HX6.out.2.1.cell_ rfl
  have v9 : w6.cell? ⟨g6, 9, none⟩ = some (.int .i64 d2') := HX6.out.2.1.cell_ rfl
  have v10 : w6.cell? ⟨g6, 10, none⟩ = some (.int .i64 d3') := HX6.out.2.1.cell_ rfl
  have v11 : w6.cell? ⟨g6, 11, none⟩ = some (.int .i64 h1') := HX6.out.2.1.cell_ rfl
  have v12 : w6.cell? ⟨g6, 12, none⟩ = some (.int .i64 h2') := HX6.out.2.1.cell_ rfl
  have hl5 := HX6.out.1.lt
  have hl6 := HX6.out.2.1.lt
  go_wp2_with fail
  all_goals first
    | exact (HNE.out (by first | rfl | assumption) (by first | rfl | assumption) (by first | rfl | assumption) (by first | rfl | assumption) (by first | rfl | assumption) (by first | rfl | assumption) (by first | rfl | assumption) (by first | rfl | assumption) (by first | rfl | assumption) (by first | rfl | assumption) (by first | rfl | assumption) (by first | rfl | assumption) (by first | rfl | assumption)).elim
    | (
      refine (HW.out _ (HX6.out.2.2.alloc HX6.out.2.2.size _)).mono ?_
      rintro e w7 ⟨rfl, hb7⟩
      have HX7 := Lib.hid ((HX6.out.2.2.alloc HX6.out.2.2.size _).trans (hb7.mono (HX6.out.2.2.alloc HX6.out.2.2.size _).size))
      clear HX6 hb7
      go_wp2_with fail
      go_ret
      exact ⟨rfl, HX7.out⟩
      )

theorem eback_any (d f : DraftE) (hd : d.Ok) (hf : f.Ok) (w : World) (hT : ETabs w) (hM : MaxL w) :
    Calls Tryz.prog 5 #[.agg d.cells, .agg f.cells] w fun e w' => e = .returned (.bool true) ∧ Below w.heap.size w w' := by
  have HM1 := fun W => emade_any d hd W
  have HM2 := fun W => emade_any f hf W
  have hr := d.right
  have hx := f.right
  have HT : ∀ W, Below w.heap.size w W → ETabs W := fun W hW => hT.below hW
  have HML : ∀ W, Below w.heap.size w W → MaxL W := fun W hW => hM.below hW
  have HW := fun W hW => eworks_any W (HT W hW) (HML W hW)
  have hD := infoED d
  have hE := infoED f
  generalize d.era = r at *
  generalize f.era = x at *
  have HP1 := fun W hW => eprint_right r hr W (HT W hW)
  have HP2 := fun W hW => eprint_right x hx W (HT W hW)
  have HWo := fun W hW => esplit_back r hr W (HT W hW) (HML W hW)
  by_cases hrx : r = x
  · subst hrx
    obtain ⟨off, kd, sv, sn, sf, ⟨is, y, m, ⟨d1, d2, d3⟩, ⟨h1, h2⟩⟩⟩ := r
    exact eback_same d.cells f.cells off kd sv ⟨sn.toArray⟩ ⟨sf.toArray⟩ is y m d1 d2 d3 h1 h2 _ w hD hE (Lib.hid HM1) (Lib.hid HM2) (Lib.hid HP1) (Lib.hid HP2) (Lib.hid HWo) (Lib.hid HW)
  · have hTT : eraT r ≠ eraT x := fun h => hrx (eraT_inj hr hx h)
    obtain ⟨off, kd, sv, sn, sf, ⟨is, y, m, ⟨d1, d2, d3⟩, ⟨h1, h2⟩⟩⟩ := r
    obtain ⟨off', kd', sv', sn', sf', ⟨is', y', m', ⟨d1', d2', d3'⟩, ⟨h1', h2'⟩⟩⟩ := x
    refine eback_apart d.cells f.cells off kd sv ⟨sn.toArray⟩ ⟨sf.toArray⟩ is y m d1 d2 d3 h1 h2 off' kd' sv' ⟨sn'.toArray⟩ ⟨sf'.toArray⟩ is' y' m' d1' d2' d3' h1' h2' _ _ w hD hE (Lib.hid HM1) (Lib.hid HM2) (Lib.hid HP1) (Lib.hid HP2) (Lib.hid HWo) (Lib.hid HW) (str_ne (by simpa [Lib.toList_data] using hTT)) (Lib.hid fun e0 e1 e2 e3 e4 e5 e6 e7 e8 e9 e10 e11 e12 => ?_)
    rw [Lib.toList_data, Lib.toList_data] at e3 e4
    exact hrx (by rw [show sn = sn' from e3, show sf = sf' from e4, e0, e1, e2, e5, e6, e7, e8, e9, e10, e11, e12])
end Go.Proofs.YtbdmieelokmhiaaGreatDoor
