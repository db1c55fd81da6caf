/-
  The law RulelineBack: what the call returns.
-/
import Derived.Test.YtgfnnmdngckmmaaGreatDoorRuleDraft
set_option linter.unusedVariables false
namespace Go.Proofs.YtgfnnmdngckmmaaGreatDoor
open Go.RowKit
theorem Blk.farSets {g b : Nat} {t : TypeId} {cs : Array Value} {w : World} (h : Blk w b t cs) (hne : b ≠ g) : ∀ (vs : List Value) (o : Nat), Blk (w.setCells g o vs) b t cs := by
  intro vs
  induction vs generalizing w with
  | nil => intro o; exact h
  | cons v vs ih => intro o; exact ih (h.far hne v) (o + 1)
def D2Held (w : World) (D E : Array Value) (W : World) : Prop := Blk W w.heap.size 41 D ∧ Blk W (w.heap.size + 1) 41 E ∧ Below w.heap.size w W

set_option maxRecDepth 100000 in
set_option maxHeartbeats 2000000 in
theorem rback_same (D E : Array Value) (sn sl : ByteArray) (fr tl mo dk dw dd hs hb sv : Int) (T : ByteArray) (w : World) (hD : (Tryz.prog.info? 41).map (·.size) = some D.size) (hE : (Tryz.prog.info? 41).map (·.size) = some E.size)
    (HM1 : Hid (∀ W, Calls Tryz.prog 15 #[.agg D] W fun e w' => e = .returned (.agg #[.string sn, .int .i64 fr, .int .i64 tl, .int .i64 mo, .int .i64 dk, .int .i64 dw, .int .i64 dd, .int .i64 hs, .int .i64 hb, .int .i64 sv, .string sl]) ∧ Below W.heap.size W w'))
    (HM2 : Hid (∀ W, Calls Tryz.prog 15 #[.agg E] W fun e w' => e = .returned (.agg #[.string sn, .int .i64 fr, .int .i64 tl, .int .i64 mo, .int .i64 dk, .int .i64 dw, .int .i64 dd, .int .i64 hs, .int .i64 hb, .int .i64 sv, .string sl]) ∧ Below W.heap.size W w'))
    (HP1 : Hid (∀ W, Below w.heap.size w W → Calls Tryz.prog 13 #[.agg #[.string sn, .int .i64 fr, .int .i64 tl, .int .i64 mo, .int .i64 dk, .int .i64 dw, .int .i64 dd, .int .i64 hs, .int .i64 hb, .int .i64 sv, .string sl]] W fun e w' => e = .returned (.tuple #[.string T, .int .i64 0]) ∧ Below W.heap.size W w'))
    (HP2 : Hid (∀ W, Below w.heap.size w W → Calls Tryz.prog 13 #[.agg #[.string sn, .int .i64 fr, .int .i64 tl, .int .i64 mo, .int .i64 dk, .int .i64 dw, .int .i64 dd, .int .i64 hs, .int .i64 hb, .int .i64 sv, .string sl]] W fun e w' => e = .returned (.tuple #[.string T, .int .i64 0]) ∧ Below W.heap.size W w'))
    (HWo : Hid (∀ W, Below w.heap.size w W → Calls Tryz.prog 16 #[.string T] W fun e w' => (∃ g cap, e = .returned (.slice (some ⟨g, 0, none⟩) 10 cap) ∧ 10 ≤ cap ∧ w'.cell? ⟨g, 0, none⟩ = some (.string ⟨#[82, 117, 108, 101]⟩) ∧ Hid (∀ c2, Calls Tryz.prog 11 #[.slice (some ⟨g, 1, none⟩) 9 c2] w' fun e w2 => e = .returned (.tuple #[.agg #[.string sn, .int .i64 fr, .int .i64 tl, .int .i64 mo, .int .i64 dk, .int .i64 dw, .int .i64 dd, .int .i64 hs, .int .i64 hb, .int .i64 sv, .string sl], .int .i64 0]) ∧ Below w'.heap.size w' w2)) ∧ Below W.heap.size W w'))
    (HW : Hid (∀ W, Below w.heap.size w W → Calls Tryz.prog 10 #[] W fun e w' => e = .returned (.bool true) ∧ Below W.heap.size W w')) :
    Calls Tryz.prog 5 #[.agg D, .agg E] w fun e w' => e = .returned (.bool true) ∧ Below w.heap.size w w' := by
  go_enter Tryz.func5, Tryz.ntmps5
  go_upto_region 1 with fail
  have HG : D2Held w D E ((w.alloc (.cells D 41)).alloc (.cells E 41)) := ⟨(Blk.new' _ _ _ rfl).alloc _, Blk.new' _ _ _ (by simp), by go_grown⟩
  refine wp_region_rels 6 [[], [], [], [], [], []] [Form.val, Form.val, Form.val, Form.val, Form.new (NewRule (w.heap.size + 2)), Form.new (NewRule (w.heap.size + 2))] (D2Held w D E) (by kernel_rfl) (by kernel_rfl) rfl rfl (⟨HG.1, HG.2.1, HG.2.2.drew⟩) (fun W W' h hb => ⟨h.1.below hb h.1.lt, h.2.1.below hb h.2.1.lt, h.2.2.trans (hb.mono h.2.2.size)⟩) ⟨NewRule.lasts _, NewRule.lasts _, trivial⟩ ?_
  repeat (first | apply exSpec_rel | apply exSpec_new | apply exSpec_val)
  apply relWalk_ex rfl ?o0 (fun K hK => ?n0)
  case o0 =>
    intro W hC hF
    exact relAt_load 41 (.tmp 2) rfl w.heap.size rfl 41 D _ hC.1 Tryz.underlying41 rfl hD
  case' n0 =>
    go_simp
    refine hK _ ?_
    clear hK K
  apply relWalk_ex rfl ?o1 (fun K hK => ?n1)
  case o1 =>
    intro W hC hF
    go_simp
    all_goals exact (HM1.out W).mono fun e w' ⟨he, hb⟩ => ⟨he, hb⟩
  case' n1 =>
    go_simp
    refine hK _ ?_
    clear hK K
  apply relWalk_ex rfl ?o2 (fun K hK => ?n2)
  case o2 =>
    intro W hC hF
    exact relAt_load 41 (.tmp 3) rfl (w.heap.size + 1) rfl 41 E _ hC.2.1 Tryz.underlying41 rfl hE
  case' n2 =>
    go_simp
    refine hK _ ?_
    clear hK K
  apply relWalk_ex rfl ?o3 (fun K hK => ?n3)
  case o3 =>
    intro W hC hF
    go_simp
    all_goals exact (HM2.out W).mono fun e w' ⟨he, hb⟩ => ⟨he, hb⟩
  case' n3 =>
    go_simp
    refine hK _ ?_
    clear hK K
  apply relWalk_new rfl ?o4 (fun u4 K hK => ?n4)
  case o4 =>
    intro W hC hF
    go_simp
    all_goals exact ⟨by go_grown, ⟨_, rfl, hC.2.1.lt, Blk.new _ _ _⟩, _, rfl, Nat.le_refl _, by simp⟩
  case' n4 =>
    go_simp
    refine hK _ ?_
    clear hK K
  apply relWalk_new rfl ?o5 (fun u5 K hK => ?n5)
  case o5 =>
    intro W hC hF
    go_simp
    all_goals exact ⟨by go_grown, ⟨_, rfl, hC.2.1.lt, Blk.new _ _ _⟩, _, rfl, Nat.le_refl _, by simp⟩
  case' n5 =>
    go_simp
    refine hK _ ?_
    clear hK K
  apply relWalk_end
  intro W hC hF hU
  obtain ⟨⟨g6, rfl, hg6, hB6⟩, ⟨g5, rfl, hg5, hB5⟩, -⟩ := hF
  have hne : g6 ≠ g5 := fun h => by
    have := (List.pairwise_cons.1 hU).1 _ List.mem_cons_self
    exact this (by rw [h])
  obtain ⟨hDk, hEk, hbW⟩ := hC
  refine wpList_store_mid rfl 29 (.tmp 5) (.tmp 15) rfl g5 0 #[.string sn, .int .i64 fr, .int .i64 tl, .int .i64 mo, .int .i64 dk, .int .i64 dw, .int .i64 dd, .int .i64 hs, .int .i64 hb, .int .i64 sv, .string sl] rfl rfl (hB5.there (Nat.le_refl _)) infoRule (by simp [Value.oneCell']) ?_
  refine wpList_store_mid rfl 29 (.tmp 6) (.tmp 17) rfl g6 0 #[.string sn, .int .i64 fr, .int .i64 tl, .int .i64 mo, .int .i64 dk, .int .i64 dw, .int .i64 dd, .int .i64 hs, .int .i64 hb, .int .i64 sv, .string sl] rfl rfl ((hB6.farSets hne _ _).there (Nat.le_refl _)) infoRule (by simp [Value.oneCell']) ?_
  have HX := Lib.hid (show Blk ((W.setCells g5 0 #[.string sn, .int .i64 fr, .int .i64 tl, .int .i64 mo, .int .i64 dk, .int .i64 dw, .int .i64 dd, .int .i64 hs, .int .i64 hb, .int .i64 sv, .string sl].toList).setCells g6 0 #[.string sn, .int .i64 fr, .int .i64 tl, .int .i64 mo, .int .i64 dk, .int .i64 dw, .int .i64 dd, .int .i64 hs, .int .i64 hb, .int .i64 sv, .string sl].toList) g5 29 #[.string sn, .int .i64 fr, .int .i64 tl, .int .i64 mo, .int .i64 dk, .int .i64 dw, .int .i64 dd, .int .i64 hs, .int .i64 hb, .int .i64 sv, .string sl] ∧ Blk ((W.setCells g5 0 #[.string sn, .int .i64 fr, .int .i64 tl, .int .i64 mo, .int .i64 dk, .int .i64 dw, .int .i64 dd, .int .i64 hs, .int .i64 hb, .int .i64 sv, .string sl].toList).setCells g6 0 #[.string sn, .int .i64 fr, .int .i64 tl, .int .i64 mo, .int .i64 dk, .int .i64 dw, .int .i64 dd, .int .i64 hs, .int .i64 hb, .int .i64 sv, .string sl].toList) g6 29 #[.string sn, .int .i64 fr, .int .i64 tl, .int .i64 mo, .int .i64 dk, .int .i64 dw, .int .i64 dd, .int .i64 hs, .int .i64 hb, .int .i64 sv, .string sl] ∧ Below w.heap.size w ((W.setCells g5 0 #[.string sn, .int .i64 fr, .int .i64 tl, .int .i64 mo, .int .i64 dk, .int .i64 dw, .int .i64 dd, .int .i64 hs, .int .i64 hb, .int .i64 sv, .string sl].toList).setCells g6 0 #[.string sn, .int .i64 fr, .int .i64 tl, .int .i64 mo, .int .i64 dk, .int .i64 dw, .int .i64 dd, .int .i64 hs, .int .i64 hb, .int .i64 sv, .string sl].toList) from
    ⟨(hB5.setAll #[.string sn, .int .i64 fr, .int .i64 tl, .int .i64 mo, .int .i64 dk, .int .i64 dw, .int .i64 dd, .int .i64 hs, .int .i64 hb, .int .i64 sv, .string sl] rfl).farSets (Ne.symm hne) _ _, (hB6.farSets hne _ _).setAll #[.string sn, .int .i64 fr, .int .i64 tl, .int .i64 mo, .int .i64 dk, .int .i64 dw, .int .i64 dd, .int .i64 hs, .int .i64 hb, .int .i64 sv, .string sl] rfl, below_sets (by omega) _ _ _ (below_sets (by omega) _ _ _ hbW)⟩)
  generalize (W.setCells g5 0 #[.string sn, .int .i64 fr, .int .i64 tl, .int .i64 mo, .int .i64 dk, .int .i64 dw, .int .i64 dd, .int .i64 hs, .int .i64 hb, .int .i64 sv, .string sl].toList).setCells g6 0 #[.string sn, .int .i64 fr, .int .i64 tl, .int .i64 mo, .int .i64 dk, .int .i64 dw, .int .i64 dd, .int .i64 hs, .int .i64 hb, .int .i64 sv, .string sl].toList = w2 at *
  clear hDk hEk hbW hB5 hB6 HG hU hD hE HM1 HM2
  go_wp2_with (first | (refine wpList_load_row rfl 29 (.tmp 5) rfl g5 rfl 29 #[.string sn, .int .i64 fr, .int .i64 tl, .int .i64 mo, .int .i64 dk, .int .i64 dw, .int .i64 dd, .int .i64 hs, .int .i64 hb, .int .i64 sv, .string sl] (0, 0) _ HX.out.1 Tryz.underlying29 rfl infoRule ?_) | fail)
  refine (HP1.out _ HX.out.2.2).mono ?_
  rintro e w3 ⟨rfl, hb3⟩
  have HX3 := Lib.hid (show Blk w3 g5 29 #[.string sn, .int .i64 fr, .int .i64 tl, .int .i64 mo, .int .i64 dk, .int .i64 dw, .int .i64 dd, .int .i64 hs, .int .i64 hb, .int .i64 sv, .string sl] ∧ Blk w3 g6 29 #[.string sn, .int .i64 fr, .int .i64 tl, .int .i64 mo, .int .i64 dk, .int .i64 dw, .int .i64 dd, .int .i64 hs, .int .i64 hb, .int .i64 sv, .string sl] ∧ Below w.heap.size w w3 from ⟨HX.out.1.below hb3 HX.out.1.lt, HX.out.2.1.below hb3 HX.out.2.1.lt, HX.out.2.2.trans (hb3.mono HX.out.2.2.size)⟩)
  clear HX hb3 HP1
  go_wp2_with (first | (refine wpList_load_row rfl 29 (.tmp 6) rfl g6 rfl 29 #[.string sn, .int .i64 fr, .int .i64 tl, .int .i64 mo, .int .i64 dk, .int .i64 dw, .int .i64 dd, .int .i64 hs, .int .i64 hb, .int .i64 sv, .string sl] (0, 0) _ HX3.out.2.1 Tryz.underlying29 rfl infoRule ?_) | fail)
  refine (HP2.out _ HX3.out.2.2).mono ?_
  rintro e w4 ⟨rfl, hb4⟩
  have HX4 := Lib.hid (show Blk w4 g5 29 #[.string sn, .int .i64 fr, .int .i64 tl, .int .i64 mo, .int .i64 dk, .int .i64 dw, .int .i64 dd, .int .i64 hs, .int .i64 hb, .int .i64 sv, .string sl] ∧ Blk w4 g6 29 #[.string sn, .int .i64 fr, .int .i64 tl, .int .i64 mo, .int .i64 dk, .int .i64 dw, .int .i64 dd, .int .i64 hs, .int .i64 hb, .int .i64 sv, .string sl] ∧ Below w.heap.size w w4 from ⟨HX3.out.1.below hb4 HX3.out.1.lt, HX3.out.2.1.below hb4 HX3.out.2.1.lt, HX3.out.2.2.trans (hb4.mono HX3.out.2.2.size)⟩)
  clear HX3 hb4 HP2
  go_wp2_with fail
  refine (HWo.out _ HX4.out.2.2).mono ?_
  rintro e w5 ⟨⟨g, cap, rfl, hcap, hc0, HV⟩, hb5⟩
  have HX5 := Lib.hid (show Blk w5 g5 29 #[.string sn, .int .i64 fr, .int .i64 tl, .int .i64 mo, .int .i64 dk, .int .i64 dw, .int .i64 dd, .int .i64 hs, .int .i64 hb, .int .i64 sv, .string sl] ∧ Blk w5 g6 29 #[.string sn, .int .i64 fr, .int .i64 tl, .int .i64 mo, .int .i64 dk, .int .i64 dw, .int .i64 dd, .int .i64 hs, .int .i64 hb, .int .i64 sv, .string sl] ∧ Below w.heap.size w w5 from ⟨HX4.out.1.below hb5 HX4.out.1.lt, HX4.out.2.1.below hb5 HX4.out.2.1.lt, HX4.out.2.2.trans (hb5.mono HX4.out.2.2.size)⟩)
  clear HX4 hb5 HWo
  have hcap1 : ¬ cap = 1 := by omega
  have hcap2 : (10 : Int) ≤ (cap : Int) := by omega
  go_wp2_with fail
  refine (HV.out _).mono ?_
  rintro e w6 ⟨rfl, hb6⟩
  have HX6 := Lib.hid (show Blk w6 g5 29 #[.string sn, .int .i64 fr, .int .i64 tl, .int .i64 mo, .int .i64 dk, .int .i64 dw, .int .i64 dd, .int .i64 hs, .int .i64 hb, .int .i64 sv, .string sl] ∧ Blk w6 g6 29 #[.string sn, .int .i64 fr, .int .i64 tl, .int .i64 mo, .int .i64 dk, .int .i64 dw, .int .i64 dd, .int .i64 hs, .int .i64 hb, .int .i64 sv, .string sl] ∧ Below w.heap.size w w6 from ⟨HX5.out.1.below hb6 HX5.out.1.lt, HX5.out.2.1.below hb6 HX5.out.2.1.lt, HX5.out.2.2.trans (hb6.mono HX5.out.2.2.size)⟩)
  clear HX5 hb6 HV hcap hcap1 hcap2 hc0
  have u0 : w6.cell? ⟨g5, 0, none⟩ = some (.string sn) := HX6.out.1.cell_ rfl
  have u1 : w6.cell? ⟨g5, 1, none⟩ = some (.int .i64 fr) := HX6.out.1.cell_ rfl
  have u2 : w6.cell? ⟨g5, 2, none⟩ = some (.int .i64 tl) := HX6.out.1.cell_ rfl
  have u3 : w6.cell? ⟨g5, 3, none⟩ = some (.int .i64 mo) := HX6.out.1.cell_ rfl
  have u4 : w6.cell? ⟨g5, 4, none⟩ = some (.int .i64 dk) := HX6.out.1.cell_ rfl
  have u5 : w6.cell? ⟨g5, 5, none⟩ = some (.int .i64 dw) := HX6.out.1.cell_ rfl
  have u6 : w6.cell? ⟨g5, 6, none⟩ = some (.int .i64 dd) := HX6.out.1.cell_ rfl
  have u7 : w6.cell? ⟨g5, 7, none⟩ = some (.int .i64 hs) := HX6.out.1.cell_ rfl
  have u8 : w6.cell? ⟨g5, 8, none⟩ = some (.int .i64 hb) := HX6.out.1.cell_ rfl
  have u9 : w6.cell? ⟨g5, 9, none⟩ = some (.int .i64 sv) := HX6.out.1.cell_ rfl
  have u10 : w6.cell? ⟨g5, 10, none⟩ = some (.string sl) := HX6.out.1.cell_ rfl
  have v0 : w6.cell? ⟨g6, 0, none⟩ = some (.string sn) := HX6.out.2.1.cell_ rfl
  have v1 : w6.cell? ⟨g6, 1, none⟩ = some (.int .i64 fr) := HX6.out.2.1.cell_ rfl
  have v2 : w6.cell? ⟨g6, 2, none⟩ = some (.int .i64 tl) := HX6.out.2.1.cell_ rfl
  have v3 : w6.cell? ⟨g6, 3, none⟩ = some (.int .i64 mo) := HX6.out.2.1.cell_ rfl
  have v4 : w6.cell? ⟨g6, 4, none⟩ = some (.int .i64 dk) := HX6.out.2.1.cell_ rfl
  have v5 : w6.cell? ⟨g6, 5, none⟩ = some (.int .i64 dw) := HX6.out.2.1.cell_ rfl
  have v6 : w6.cell? ⟨g6, 6, none⟩ = some (.int .i64 dd) := HX6.out.2.1.cell_ rfl
  have v7 : w6.cell? ⟨g6, 7, none⟩ = some (.int .i64 hs) := HX6.out.2.1.cell_ rfl
  have v8 : w6.cell? ⟨g6, 8, none⟩ = some (.int .i64 hb) := HX6.out.2.1.cell_ rfl
  have v9 : w6.cell? ⟨g6, 9, none⟩ = some (.int .i64 sv) := HX6.out.2.1.cell_ rfl
  have v10 : w6.cell? ⟨g6, 10, none⟩ = some (.string sl) := HX6.out.2.1.cell_ rfl
  have hl5 := HX6.out.1.lt
  have hl6 := HX6.out.2.1.lt
  go_wp2_with fail
  refine (HW.out _ (HX6.out.2.2.alloc HX6.out.2.2.size _)).mono ?_
  rintro e w7 ⟨rfl, hb7⟩
  have HX7 := Lib.hid ((HX6.out.2.2.alloc HX6.out.2.2.size _).trans (hb7.mono (HX6.out.2.2.alloc HX6.out.2.2.size _).size))
  clear HX6 hb7
  go_wp2_with fail
  go_ret
  exact ⟨rfl, HX7.out⟩

set_option maxRecDepth 100000 in
set_option maxHeartbeats 2000000 in
theorem rback_apart (D E : Array Value) (sn sl : ByteArray) (fr tl mo dk dw dd hs hb sv : Int) (sn' sl' : ByteArray) (fr' tl' mo' dk' dw' dd' hs' hb' sv' : Int) (T T' : ByteArray) (w : World) (hD : (Tryz.prog.info? 41).map (·.size) = some D.size) (hE : (Tryz.prog.info? 41).map (·.size) = some E.size)
    (HM1 : Hid (∀ W, Calls Tryz.prog 15 #[.agg D] W fun e w' => e = .returned (.agg #[.string sn, .int .i64 fr, .int .i64 tl, .int .i64 mo, .int .i64 dk, .int .i64 dw, .int .i64 dd, .int .i64 hs, .int .i64 hb, .int .i64 sv, .string sl]) ∧ Below W.heap.size W w'))
    (HM2 : Hid (∀ W, Calls Tryz.prog 15 #[.agg E] W fun e w' => e = .returned (.agg #[.string sn', .int .i64 fr', .int .i64 tl', .int .i64 mo', .int .i64 dk', .int .i64 dw', .int .i64 dd', .int .i64 hs', .int .i64 hb', .int .i64 sv', .string sl']) ∧ Below W.heap.size W w'))
    (HP1 : Hid (∀ W, Below w.heap.size w W → Calls Tryz.prog 13 #[.agg #[.string sn, .int .i64 fr, .int .i64 tl, .int .i64 mo, .int .i64 dk, .int .i64 dw, .int .i64 dd, .int .i64 hs, .int .i64 hb, .int .i64 sv, .string sl]] W fun e w' => e = .returned (.tuple #[.string T, .int .i64 0]) ∧ Below W.heap.size W w'))
    (HP2 : Hid (∀ W, Below w.heap.size w W → Calls Tryz.prog 13 #[.agg #[.string sn', .int .i64 fr', .int .i64 tl', .int .i64 mo', .int .i64 dk', .int .i64 dw', .int .i64 dd', .int .i64 hs', .int .i64 hb', .int .i64 sv', .string sl']] W fun e w' => e = .returned (.tuple #[.string T', .int .i64 0]) ∧ Below W.heap.size W w'))
    (HWo : Hid (∀ W, Below w.heap.size w W → Calls Tryz.prog 16 #[.string T] W fun e w' => (∃ g cap, e = .returned (.slice (some ⟨g, 0, none⟩) 10 cap) ∧ 10 ≤ cap ∧ w'.cell? ⟨g, 0, none⟩ = some (.string ⟨#[82, 117, 108, 101]⟩) ∧ Hid (∀ c2, Calls Tryz.prog 11 #[.slice (some ⟨g, 1, none⟩) 9 c2] w' fun e w2 => e = .returned (.tuple #[.agg #[.string sn, .int .i64 fr, .int .i64 tl, .int .i64 mo, .int .i64 dk, .int .i64 dw, .int .i64 dd, .int .i64 hs, .int .i64 hb, .int .i64 sv, .string sl], .int .i64 0]) ∧ Below w'.heap.size w' w2)) ∧ Below W.heap.size W w'))
    (HW : Hid (∀ W, Below w.heap.size w W → Calls Tryz.prog 10 #[] W fun e w' => e = .returned (.bool true) ∧ Below W.heap.size W w')) (hTT : (T.toList == T'.toList) = false) (HNE : Hid (sn.toList = sn'.toList → fr = fr' → tl = tl' → mo = mo' → dk = dk' → dw = dw' → dd = dd' → hs = hs' → hb = hb' → sv = sv' → sl.toList = sl'.toList → False)) :
    Calls Tryz.prog 5 #[.agg D, .agg E] w fun e w' => e = .returned (.bool true) ∧ Below w.heap.size w w' := by
  go_enter Tryz.func5, Tryz.ntmps5
  go_upto_region 1 with fail
  have HG : D2Held w D E ((w.alloc (.cells D 41)).alloc (.cells E 41)) := ⟨(Blk.new' _ _ _ rfl).alloc _, Blk.new' _ _ _ (by simp), by go_grown⟩
  refine wp_region_rels 6 [[], [], [], [], [], []] [Form.val, Form.val, Form.val, Form.val, Form.new (NewRule (w.heap.size + 2)), Form.new (NewRule (w.heap.size + 2))] (D2Held w D E) (by kernel_rfl) (by kernel_rfl) rfl rfl (⟨HG.1, HG.2.1, HG.2.2.drew⟩) (fun W W' h hb => ⟨h.1.below hb h.1.lt, h.2.1.below hb h.2.1.lt, h.2.2.trans (hb.mono h.2.2.size)⟩) ⟨NewRule.lasts _, NewRule.lasts _, trivial⟩ ?_
  repeat (first | apply exSpec_rel | apply exSpec_new | apply exSpec_val)
  apply relWalk_ex rfl ?o0 (fun K hK => ?n0)
  case o0 =>
    intro W hC hF
    exact relAt_load 41 (.tmp 2) rfl w.heap.size rfl 41 D _ hC.1 Tryz.underlying41 rfl hD
  case' n0 =>
    go_simp
    refine hK _ ?_
    clear hK K
  apply relWalk_ex rfl ?o1 (fun K hK => ?n1)
  case o1 =>
    intro W hC hF
    go_simp
    all_goals exact (HM1.out W).mono fun e w' ⟨he, hb⟩ => ⟨he, hb⟩
  case' n1 =>
    go_simp
    refine hK _ ?_
    clear hK K
  apply relWalk_ex rfl ?o2 (fun K hK => ?n2)
  case o2 =>
    intro W hC hF
    exact relAt_load 41 (.tmp 3) rfl (w.heap.size + 1) rfl 41 E _ hC.2.1 Tryz.underlying41 rfl hE
  case' n2 =>
    go_simp
    refine hK _ ?_
    clear hK K
  apply relWalk_ex rfl ?o3 (fun K hK => ?n3)
  case o3 =>
    intro W hC hF
    go_simp
    all_goals exact (HM2.out W).mono fun e w' ⟨he, hb⟩ => ⟨he, hb⟩
  case' n3 =>
    go_simp
    refine hK _ ?_
    clear hK K
  apply relWalk_new rfl ?o4 (fun u4 K hK => ?n4)
  case o4 =>
    intro W hC hF
    go_simp
    all_goals exact ⟨by go_grown, ⟨_, rfl, hC.2.1.lt, Blk.new _ _ _⟩, _, rfl, Nat.le_refl _, by simp⟩
  case' n4 =>
    go_simp
    refine hK _ ?_
    clear hK K
  apply relWalk_new rfl ?o5 (fun u5 K hK => ?n5)
  case o5 =>
    intro W hC hF
    go_simp
    all_goals exact ⟨by go_grown, ⟨_, rfl, hC.2.1.lt, Blk.new _ _ _⟩, _, rfl, Nat.le_refl _, by simp⟩
  case' n5 =>
    go_simp
    refine hK _ ?_
    clear hK K
  apply relWalk_end
  intro W hC hF hU
  obtain ⟨⟨g6, rfl, hg6, hB6⟩, ⟨g5, rfl, hg5, hB5⟩, -⟩ := hF
  have hne : g6 ≠ g5 := fun h => by
    have := (List.pairwise_cons.1 hU).1 _ List.mem_cons_self
    exact this (by rw [h])
  obtain ⟨hDk, hEk, hbW⟩ := hC
  refine wpList_store_mid rfl 29 (.tmp 5) (.tmp 15) rfl g5 0 #[.string sn, .int .i64 fr, .int .i64 tl, .int .i64 mo, .int .i64 dk, .int .i64 dw, .int .i64 dd, .int .i64 hs, .int .i64 hb, .int .i64 sv, .string sl] rfl rfl (hB5.there (Nat.le_refl _)) infoRule (by simp [Value.oneCell']) ?_
  refine wpList_store_mid rfl 29 (.tmp 6) (.tmp 17) rfl g6 0 #[.string sn', .int .i64 fr', .int .i64 tl', .int .i64 mo', .int .i64 dk', .int .i64 dw', .int .i64 dd', .int .i64 hs', .int .i64 hb', .int .i64 sv', .string sl'] rfl rfl ((hB6.farSets hne _ _).there (Nat.le_refl _)) infoRule (by simp [Value.oneCell']) ?_
  have HX := Lib.hid (show Blk ((W.setCells g5 0 #[.string sn, .int .i64 fr, .int .i64 tl, .int .i64 mo, .int .i64 dk, .int .i64 dw, .int .i64 dd, .int .i64 hs, .int .i64 hb, .int .i64 sv, .string sl].toList).setCells g6 0 #[.string sn', .int .i64 fr', .int .i64 tl', .int .i64 mo', .int .i64 dk', .int .i64 dw', .int .i64 dd', .int .i64 hs', .int .i64 hb', .int .i64 sv', .string sl'].toList) g5 29 #[.string sn, .int .i64 fr, .int .i64 tl, .int .i64 mo, .int .i64 dk, .int .i64 dw, .int .i64 dd, .int .i64 hs, .int .i64 hb, .int .i64 sv, .string sl] ∧ Blk ((W.setCells g5 0 #[.string sn, .int .i64 fr, .int .i64 tl, .int .i64 mo, .int .i64 dk, .int .i64 dw, .int .i64 dd, .int .i64 hs, .int .i64 hb, .int .i64 sv, .string sl].toList).setCells g6 0 #[.string sn', .int .i64 fr', .int .i64 tl', .int .i64 mo', .int .i64 dk', .int .i64 dw', .int .i64 dd', .int .i64 hs', .int .i64 hb', .int .i64 sv', .string sl'].toList) g6 29 #[.string sn', .int .i64 fr', .int .i64 tl', .int .i64 mo', .int .i64 dk', .int .i64 dw', .int .i64 dd', .int .i64 hs', .int .i64 hb', .int .i64 sv', .string sl'] ∧ Below w.heap.size w ((W.setCells g5 0 #[.string sn, .int .i64 fr, .int .i64 tl, .int .i64 mo, .int .i64 dk, .int .i64 dw, .int .i64 dd, .int .i64 hs, .int .i64 hb, .int .i64 sv, .string sl].toList).setCells g6 0 #[.string sn', .int .i64 fr', .int .i64 tl', .int .i64 mo', .int .i64 dk', .int .i64 dw', .int .i64 dd', .int .i64 hs', .int .i64 hb', .int .i64 sv', .string sl'].toList) from
    ⟨(hB5.setAll #[.string sn, .int .i64 fr, .int .i64 tl, .int .i64 mo, .int .i64 dk, .int .i64 dw, .int .i64 dd, .int .i64 hs, .int .i64 hb, .int .i64 sv, .string sl] rfl).farSets (Ne.symm hne) _ _, (hB6.farSets hne _ _).setAll #[.string sn', .int .i64 fr', .int .i64 tl', .int .i64 mo', .int .i64 dk', .int .i64 dw', .int .i64 dd', .int .i64 hs', .int .i64 hb', .int .i64 sv', .string sl'] rfl, below_sets (by omega) _ _ _ (below_sets (by omega) _ _ _ hbW)⟩)
  generalize (W.setCells g5 0 #[.string sn, .int .i64 fr, .int .i64 tl, .int .i64 mo, .int .i64 dk, .int .i64 dw, .int .i64 dd, .int .i64 hs, .int .i64 hb, .int .i64 sv, .string sl].toList).setCells g6 0 #[.string sn', .int .i64 fr', .int .i64 tl', .int .i64 mo', .int .i64 dk', .int .i64 dw', .int .i64 dd', .int .i64 hs', .int .i64 hb', .int .i64 sv', .string sl'].toList = w2 at *
  clear hDk hEk hbW hB5 hB6 HG hU hD hE HM1 HM2
  go_wp2_with (first | (refine wpList_load_row rfl 29 (.tmp 5) rfl g5 rfl 29 #[.string sn, .int .i64 fr, .int .i64 tl, .int .i64 mo, .int .i64 dk, .int .i64 dw, .int .i64 dd, .int .i64 hs, .int .i64 hb, .int .i64 sv, .string sl] (0, 0) _ HX.out.1 Tryz.underlying29 rfl infoRule ?_) | fail)
  refine (HP1.out _ HX.out.2.2).mono ?_
  rintro e w3 ⟨rfl, hb3⟩
  have HX3 := Lib.hid (show Blk w3 g5 29 #[.string sn, .int .i64 fr, .int .i64 tl, .int .i64 mo, .int .i64 dk, .int .i64 dw, .int .i64 dd, .int .i64 hs, .int .i64 hb, .int .i64 sv, .string sl] ∧ Blk w3 g6 29 #[.string sn', .int .i64 fr', .int .i64 tl', .int .i64 mo', .int .i64 dk', .int .i64 dw', .int .i64 dd', .int .i64 hs', .int .i64 hb', .int .i64 sv', .string sl'] ∧ Below w.heap.size w w3 from ⟨HX.out.1.below hb3 HX.out.1.lt, HX.out.2.1.below hb3 HX.out.2.1.lt, HX.out.2.2.trans (hb3.mono HX.out.2.2.size)⟩)
  clear HX hb3 HP1
  go_wp2_with (first | (refine wpList_load_row rfl 29 (.tmp 6) rfl g6 rfl 29 #[.string sn', .int .i64 fr', .int .i64 tl', .int .i64 mo', .int .i64 dk', .int .i64 dw', .int .i64 dd', .int .i64 hs', .int .i64 hb', .int .i64 sv', .string sl'] (0, 0) _ HX3.out.2.1 Tryz.underlying29 rfl infoRule ?_) | fail)
  refine (HP2.out _ HX3.out.2.2).mono ?_
  rintro e w4 ⟨rfl, hb4⟩
  have HX4 := Lib.hid (show Blk w4 g5 29 #[.string sn, .int .i64 fr, .int .i64 tl, .int .i64 mo, .int .i64 dk, .int .i64 dw, .int .i64 dd, .int .i64 hs, .int .i64 hb, .int .i64 sv, .string sl] ∧ Blk w4 g6 29 #[.string sn', .int .i64 fr', .int .i64 tl', .int .i64 mo', .int .i64 dk', .int .i64 dw', .int .i64 dd', .int .i64 hs', .int .i64 hb', .int .i64 sv', .string sl'] ∧ Below w.heap.size w w4 from ⟨HX3.out.1.below hb4 HX3.out.1.lt, HX3.out.2.1.below hb4 HX3.out.2.1.lt, HX3.out.2.2.trans (hb4.mono HX3.out.2.2.size)⟩)
  clear HX3 hb4 HP2
  go_wp2_with fail
  refine (HWo.out _ HX4.out.2.2).mono ?_
  rintro e w5 ⟨⟨g, cap, rfl, hcap, hc0, HV⟩, hb5⟩
  have HX5 := Lib.hid (show Blk w5 g5 29 #[.string sn, .int .i64 fr, .int .i64 tl, .int .i64 mo, .int .i64 dk, .int .i64 dw, .int .i64 dd, .int .i64 hs, .int .i64 hb, .int .i64 sv, .string sl] ∧ Blk w5 g6 29 #[.string sn', .int .i64 fr', .int .i64 tl', .int .i64 mo', .int .i64 dk', .int .i64 dw', .int .i64 dd', .int .i64 hs', .int .i64 hb', .int .i64 sv', .string sl'] ∧ Below w.heap.size w w5 from ⟨HX4.out.1.below hb5 HX4.out.1.lt, HX4.out.2.1.below hb5 HX4.out.2.1.lt, HX4.out.2.2.trans (hb5.mono HX4.out.2.2.size)⟩)
  clear HX4 hb5 HWo
  have hcap1 : ¬ cap = 1 := by omega
  have hcap2 : (10 : Int) ≤ (cap : Int) := by omega
  go_wp2_with fail
  refine (HV.out _).mono ?_
  rintro e w6 ⟨rfl, hb6⟩
  have HX6 := Lib.hid (show Blk w6 g5 29 #[.string sn, .int .i64 fr, .int .i64 tl, .int .i64 mo, .int .i64 dk, .int .i64 dw, .int .i64 dd, .int .i64 hs, .int .i64 hb, .int .i64 sv, .string sl] ∧ Blk w6 g6 29 #[.string sn', .int .i64 fr', .int .i64 tl', .int .i64 mo', .int .i64 dk', .int .i64 dw', .int .i64 dd', .int .i64 hs', .int .i64 hb', .int .i64 sv', .string sl'] ∧ Below w.heap.size w w6 from ⟨HX5.out.1.below hb6 HX5.out.1.lt, HX5.out.2.1.below hb6 HX5.out.2.1.lt, HX5.out.2.2.trans (hb6.mono HX5.out.2.2.size)⟩)
  clear HX5 hb6 HV hcap hcap1 hcap2 hc0
  have u0 : w6.cell? ⟨g5, 0, none⟩ = some (.string sn) := HX6.out.1.cell_ rfl
  have u1 : w6.cell? ⟨g5, 1, none⟩ = some (.int .i64 fr) := HX6.out.1.cell_ rfl
  have u2 : w6.cell? ⟨g5, 2, none⟩ = some (.int .i64 tl) := HX6.out.1.cell_ rfl
  have u3 : w6.cell? ⟨g5, 3, none⟩ = some (.int .i64 mo) := HX6.out.1.cell_ rfl
  have u4 : w6.cell? ⟨g5, 4, none⟩ = some (.int .i64 dk) := HX6.out.1.cell_ rfl
  have u5 : w6.cell? ⟨g5, 5, none⟩ = some (.int .i64 dw) := HX6.out.1.cell_ rfl
  have u6 : w6.cell? ⟨g5, 6, none⟩ = some (.int .i64 dd) := HX6.out.1.cell_ rfl
  have u7 : w6.cell? ⟨g5, 7, none⟩ = some (.int .i64 hs) := HX6.out.1.cell_ rfl
  have u8 : w6.cell? ⟨g5, 8, none⟩ = some (.int .i64 hb) := HX6.out.1.cell_ rfl
  have u9 : w6.cell? ⟨g5, 9, none⟩ = some (.int .i64 sv) := HX6.out.1.cell_ rfl
  have u10 : w6.cell? ⟨g5, 10, none⟩ = some (.string sl) := HX6.out.1.cell_ rfl
  have v0 : w6.cell? ⟨g6, 0, none⟩ = some (.string sn') := HX6.out.2.1.cell_ rfl
  have v1 : w6.cell? ⟨g6, 1, none⟩ = some (.int .i64 fr') := HX6.out.2.1.cell_ rfl
  have v2 : w6.cell? ⟨g6, 2, none⟩ = some (.int .i64 tl') := HX6.out.2.1.cell_ rfl
  have v3 : w6.cell? ⟨g6, 3, none⟩ = some (.int .i64 mo') := HX6.out.2.1.cell_ rfl
  have v4 : w6.cell? ⟨g6, 4, none⟩ = some (.int .i64 dk') := HX6.out.2.1.cell_ rfl
  have v5 : w6.cell? ⟨g6, 5, none⟩ = some (.int .i64 dw') := HX6.out.2.1.cell_ rfl
  have v6 : w6.cell? ⟨g6, 6, none⟩ = some (.int .i64 dd') := HX6.out.2.1.cell_ rfl
  have v7 : w6.cell? ⟨g6, 7, none⟩ = some (.int .i64 hs') := HX6.out.2.1.cell_ rfl
  have v8 : w6.cell? ⟨g6, 8, none⟩ = some (.int .i64 hb') := HX6.out.2.1.cell_ rfl
  have v9 : w6.cell? ⟨g6, 9, none⟩ = some (.int .i64 sv') := HX6.out.2.1.cell_ rfl
  have v10 : w6.cell? ⟨g6, 10, none⟩ = some (.string sl') := HX6.out.2.1.cell_ rfl
  have hl5 := HX6.out.1.lt
  have hl6 := HX6.out.2.1.lt
  go_wp2_with fail
  all_goals first
    | exact (HNE.out (by first | rfl | assumption) (by first | rfl | assumption) (by first | rfl | assumption) (by first | rfl | assumption) (by first | rfl | assumption) (by first | rfl | assumption) (by first | rfl | assumption) (by first | rfl | assumption) (by first | rfl | assumption) (by first | rfl | assumption) (by first | rfl | assumption)).elim
    | (
      refine (HW.out _ (HX6.out.2.2.alloc HX6.out.2.2.size _)).mono ?_
      rintro e w7 ⟨rfl, hb7⟩
      have HX7 := Lib.hid ((HX6.out.2.2.alloc HX6.out.2.2.size _).trans (hb7.mono (HX6.out.2.2.alloc HX6.out.2.2.size _).size))
      clear HX6 hb7
      go_wp2_with fail
      go_ret
      exact ⟨rfl, HX7.out⟩
      )

theorem rback_any (d f : DraftP) (hd : d.Ok) (hf : f.Ok) (w : World) (hT : RTabs w) :
    Calls Tryz.prog 5 #[.agg d.cells, .agg f.cells] w fun e w' => e = .returned (.bool true) ∧ Below w.heap.size w w' := by
  have HM1 := fun W => d.made_any hd W
  have HM2 := fun W => f.made_any hf W
  have hr := d.right
  have hx := f.right
  have HT : ∀ W, Below w.heap.size w W → RTabs W := fun W hW => hT.below hW
  have HW := fun W hW => rworks_any W (HT W hW)
  have hD : (Tryz.prog.info? 41).map (·.size) = some d.cells.size := infoDraft
  have hE : (Tryz.prog.info? 41).map (·.size) = some f.cells.size := infoDraft
  generalize d.made = r at *
  generalize f.made = x at *
  have HP1 := fun W hW => print_right r hr W (HT W hW)
  have HP2 := fun W hW => print_right x hx W (HT W hW)
  have HWo := fun W hW => words_back r hr W (HT W hW)
  by_cases hrx : r = x
  · subst hrx
    obtain ⟨nm, fr, tl, mo, ⟨dk, dw, dd⟩, ⟨hs, hb⟩, sv, lt⟩ := r
    exact rback_same d.cells f.cells ⟨nm.toArray⟩ ⟨lt.toArray⟩ fr tl mo dk dw dd hs hb sv _ w hD hE (Lib.hid HM1) (Lib.hid HM2) (Lib.hid HP1) (Lib.hid HP2) (Lib.hid HWo) (Lib.hid HW)
  · have hTT : ruleT r ≠ ruleT x := fun h => hrx (ruleT_inj hr hx h)
    obtain ⟨nm, fr, tl, mo, ⟨dk, dw, dd⟩, ⟨hs, hb⟩, sv, lt⟩ := r
    obtain ⟨nm', fr', tl', mo', ⟨dk', dw', dd'⟩, ⟨hs', hb'⟩, sv', lt'⟩ := x
    refine rback_apart d.cells f.cells ⟨nm.toArray⟩ ⟨lt.toArray⟩ fr tl mo dk dw dd hs hb sv ⟨nm'.toArray⟩ ⟨lt'.toArray⟩ fr' tl' mo' dk' dw' dd' hs' hb' sv' _ _ w hD hE (Lib.hid HM1) (Lib.hid HM2) (Lib.hid HP1) (Lib.hid HP2) (Lib.hid HWo) (Lib.hid HW) (str_ne (by simpa [Lib.toList_data] using hTT)) (Lib.hid fun e0 e1 e2 e3 e4 e5 e6 e7 e8 e9 e10 => ?_)
    rw [Lib.toList_data, Lib.toList_data] at e0 e10
    exact hrx (by rw [show nm = nm' from e0, show lt = lt' from e10, e1, e2, e3, e4, e5, e6, e7, e8, e9])
end Go.Proofs.YtgfnnmdngckmmaaGreatDoor
