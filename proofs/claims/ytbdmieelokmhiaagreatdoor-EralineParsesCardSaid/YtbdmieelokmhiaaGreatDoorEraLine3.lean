/-
  eraline.line: what it returns.
-/
import Derived.Test.YtbdmieelokmhiaaGreatDoorEraLine2
import Derived.Test.YtbdmieelokmhiaaGreatDoorRelFail
set_option linter.unusedVariables false
namespace Go.Proofs.YtbdmieelokmhiaaGreatDoor
open Go.RowKit

set_option maxRecDepth 100000 in
set_option maxHeartbeats 1000000 in
theorem line_ok0 (off kd sv : Int) (sf : ByteArray) (is : Bool) (y m d1 d2 d3 h1 h2 : Int) (w : World) (ao : ByteArray) (hk : decide (0 ≤ kd) = true) (hk2 : decide (kd ≤ 2) = true) (ha : (kd == 1) = false) (hsv : (sv == 0) = true) (hc : (kd == 2) = false) (HS : Hid (∀ W, Calls Tryz.prog 65 #[.string ⟨#[]⟩] W fun e w' => e = .returned (.bool false) ∧ Below W.heap.size W w')) (HF : Hid (∀ W, Calls Tryz.prog 49 #[.string sf] W fun e w' => e = .returned (.bool true) ∧ Below W.heap.size W w')) (hl0 : ao.size ≤ 1000) (hl1 : sf.size ≤ 1000) (te : ByteArray) (hl2 : te.size ≤ 1000) (HE : Hid (∀ W, Below w.heap.size w W → Calls Tryz.prog 66 #[.agg #[.bool is, .int .i64 y, .int .i64 m, .int .i64 d1, .int .i64 d2, .int .i64 d3, .int .i64 h1, .int .i64 h2]] W fun e w' => e = .returned (.string te) ∧ Below W.heap.size W w'))
    (HA : Hid (∀ W, Below w.heap.size w W → Calls Tryz.prog 64 #[.int .i64 off] W fun e w' => e = .returned (.string ao) ∧ Below W.heap.size W w')) :
    Calls Tryz.prog 27 #[.agg #[.int .i64 off, .int .i64 kd, .int .i64 sv, .string ⟨#[]⟩, .string sf, .bool is, .int .i64 y, .int .i64 m, .int .i64 d1, .int .i64 d2, .int .i64 d3, .int .i64 h1, .int .i64 h2]] w fun e w' => e = .returned (.string ⟨(ao.data.toList ++ ([32] ++ (([45] : List UInt8) ++ ([32] ++ (sf.data.toList ++ te.data.toList))))).toArray⟩) ∧ Below w.heap.size w w' := by
  have hB0 := (Below.refl w.heap.size w).alloc (Nat.le_refl _) (.cells #[.int .i64 off, .int .i64 kd, .int .i64 sv, .string ⟨#[]⟩, .string sf, .bool is, .int .i64 y, .int .i64 m, .int .i64 d1, .int .i64 d2, .int .i64 d3, .int .i64 h1, .int .i64 h2] 31)
  have HB0 := Lib.hid (And.intro (Blk.new' w 31 #[.int .i64 off, .int .i64 kd, .int .i64 sv, .string ⟨#[]⟩, .string sf, .bool is, .int .i64 y, .int .i64 m, .int .i64 d1, .int .i64 d2, .int .i64 d3, .int .i64 h1, .int .i64 h2] rfl) hB0)
  clear hB0
  go_enter Tryz.func27, Tryz.ntmps27
  go_wp2_with fail
  refine (HA.out _ HB0.out.2).mono ?_
  rintro e w1 ⟨rfl, hb1⟩
  have HB1 := Lib.hid (And.intro (HB0.out.1.below hb1 HB0.out.1.lt) (HB0.out.2.trans (hb1.mono HB0.out.2.size)))
  clear hb1 HB0 HA
  go_wp2_with fail
  refine wp_region_rels 42 [[], [], [], [], [], [], [], [], [], [], [], [], [], [], [], [], [], [], [], [], [], [], [], [], [], [], [], [], [], [], [], [], [], [], [], [], [], [], [], [], [], []] [Form.val, Form.val, Form.val, Form.val, Form.val, Form.val, Form.val, Form.val, Form.val, Form.val, Form.val, Form.val, Form.val, Form.val, Form.val, Form.val, Form.val, Form.val, Form.val, Form.val, Form.val, Form.val, Form.val, Form.val, Form.val, Form.val, Form.val, Form.val, Form.val, Form.val, Form.val, Form.val, Form.val, Form.val, Form.val, Form.val, Form.val, Form.val, Form.val, Form.val, Form.val, Form.val] (fun W => Blk W w.heap.size 31 #[.int .i64 off, .int .i64 kd, .int .i64 sv, .string ⟨#[]⟩, .string sf, .bool is, .int .i64 y, .int .i64 m, .int .i64 d1, .int .i64 d2, .int .i64 d3, .int .i64 h1, .int .i64 h2] ∧ Below w.heap.size w W) (by kernel_rfl) (by kernel_rfl) rfl rfl (⟨HB1.out.1, HB1.out.2.drew⟩) (fun W W' h hb => ⟨h.1.below hb h.1.lt, h.2.trans (hb.mono h.2.size)⟩) trivial ?_
  repeat (first | apply exSpec_rel | apply exSpec_new | apply exSpec_val)
  apply relWalk_ex rfl ?o0 (fun K hK => ?n0)
  case o0 =>
    intro W hC hF
    obtain ⟨q0, q1, q2, q3, q4⟩ := lq5 hC.1
    go_simp
    all_goals exact ⟨Below.refl _ _, rfl⟩
  case' n0 =>
    go_simp
    refine hK _ ?_
    clear hK K
  apply relWalk_ex rfl ?o1 (fun K hK => ?n1)
  case o1 =>
    intro W hC hF
    obtain ⟨q0, q1, q2, q3, q4⟩ := lq5 hC.1
    go_simp
    all_goals exact ⟨Below.refl _ _, rfl⟩
  case' n1 =>
    go_simp
    refine hK _ ?_
    clear hK K
  apply relWalk_ex rfl ?o2 (fun K hK => ?n2)
  case o2 =>
    intro W hC hF
    obtain ⟨q0, q1, q2, q3, q4⟩ := lq5 hC.1
    go_simp
    all_goals exact ⟨Below.refl _ _, rfl⟩
  case' n2 =>
    go_simp
    refine hK _ ?_
    clear hK K
  apply relWalk_ex rfl ?o3 (fun K hK => ?n3)
  case o3 =>
    intro W hC hF
    obtain ⟨q0, q1, q2, q3, q4⟩ := lq5 hC.1
    go_simp
    all_goals exact ⟨Below.refl _ _, rfl⟩
  case' n3 =>
    go_simp
    refine hK _ ?_
    clear hK K
  apply relWalk_exg ?o4 (fun K hK => ?n4)
  case o4 =>
    intro W hC hF
    first | exact relOp_off rfl rfl rfl rfl | exact relOp_none rfl rfl rfl | skip
    all_goals
      refine relOp_on rfl rfl ?_
      obtain ⟨q0, q1, q2, q3, q4⟩ := lq5 hC.1
      go_simp
      all_goals exact ⟨Below.refl _ _, rfl⟩
  case' n4 =>
    go_simp
    refine hK _ ?_
    clear hK K
  apply relWalk_exg ?o5 (fun K hK => ?n5)
  case o5 =>
    intro W hC hF
    first | exact relOp_off rfl rfl rfl rfl | exact relOp_none rfl rfl rfl | skip
    all_goals
      refine relOp_on rfl rfl ?_
      obtain ⟨q0, q1, q2, q3, q4⟩ := lq5 hC.1
      go_simp
      all_goals exact ⟨Below.refl _ _, rfl⟩
  case' n5 =>
    go_simp
    refine hK _ ?_
    clear hK K
  apply relWalk_exg ?o6 (fun K hK => ?n6)
  case o6 =>
    intro W hC hF
    first | exact relOp_off rfl rfl rfl rfl | exact relOp_none rfl rfl rfl | skip
    all_goals
      refine relOp_on rfl rfl ?_
      obtain ⟨q0, q1, q2, q3, q4⟩ := lq5 hC.1
      go_simp
      all_goals exact ⟨Below.refl _ _, rfl⟩
  case' n6 =>
    go_simp
    refine hK _ ?_
    clear hK K
  apply relWalk_ex rfl ?o7 (fun K hK => ?n7)
  case o7 =>
    intro W hC hF
    obtain ⟨q0, q1, q2, q3, q4⟩ := lq5 hC.1
    go_simp
    all_goals exact ⟨Below.refl _ _, rfl⟩
  case' n7 =>
    go_simp
    refine hK _ ?_
    clear hK K
  apply relWalk_ex rfl ?o8 (fun K hK => ?n8)
  case o8 =>
    intro W hC hF
    obtain ⟨q0, q1, q2, q3, q4⟩ := lq5 hC.1
    go_simp
    all_goals exact ⟨Below.refl _ _, rfl⟩
  case' n8 =>
    go_simp
    refine hK _ ?_
    clear hK K
  apply relWalk_exg ?o9 (fun K hK => ?n9)
  case o9 =>
    intro W hC hF
    first | exact relOp_off rfl rfl rfl rfl | exact relOp_none rfl rfl rfl | skip
    all_goals
      refine relOp_on rfl rfl ?_
      obtain ⟨q0, q1, q2, q3, q4⟩ := lq5 hC.1
      go_simp
      all_goals exact ⟨Below.refl _ _, rfl⟩
  case' n9 =>
    go_simp
    refine hK _ ?_
    clear hK K
  apply relWalk_exg ?o10 (fun K hK => ?n10)
  case o10 =>
    intro W hC hF
    first | exact relOp_off rfl rfl rfl rfl | exact relOp_none rfl rfl rfl | skip
    all_goals
      refine relOp_on rfl rfl ?_
      obtain ⟨q0, q1, q2, q3, q4⟩ := lq5 hC.1
      go_simp
      all_goals exact ⟨Below.refl _ _, rfl⟩
  case' n10 =>
    go_simp
    refine hK _ ?_
    clear hK K
  apply relWalk_exg ?o11 (fun K hK => ?n11)
  case o11 =>
    intro W hC hF
    first | exact relOp_off rfl rfl rfl rfl | exact relOp_none rfl rfl rfl | skip
    all_goals
      refine relOp_on rfl rfl ?_
      obtain ⟨q0, q1, q2, q3, q4⟩ := lq5 hC.1
      go_simp
      all_goals exact ⟨Below.refl _ _, rfl⟩
  case' n11 =>
    go_simp
    refine hK _ ?_
    clear hK K
  apply relWalk_exg ?o12 (fun K hK => ?n12)
  case o12 =>
    intro W hC hF
    first | exact relOp_off rfl rfl rfl rfl | exact relOp_none rfl rfl rfl | skip
    all_goals
      refine relOp_on rfl rfl ?_
      obtain ⟨q0, q1, q2, q3, q4⟩ := lq5 hC.1
      go_simp
      all_goals exact ⟨Below.refl _ _, rfl⟩
  case' n12 =>
    go_simp
    refine hK _ ?_
    clear hK K
  apply relWalk_exg ?o13 (fun K hK => ?n13)
  case o13 =>
    intro W hC hF
    first | exact relOp_off rfl rfl rfl rfl | exact relOp_none rfl rfl rfl | skip
    all_goals
      refine relOp_on rfl rfl ?_
      obtain ⟨q0, q1, q2, q3, q4⟩ := lq5 hC.1
      go_simp
      all_goals exact ⟨Below.refl _ _, rfl⟩
  case' n13 =>
    go_simp
    refine hK _ ?_
    clear hK K
  apply relWalk_exg ?o14 (fun K hK => ?n14)
  case o14 =>
    intro W hC hF
    first | exact relOp_off rfl rfl rfl rfl | exact relOp_none rfl rfl rfl | skip
    all_goals
      refine relOp_on rfl rfl ?_
      obtain ⟨q0, q1, q2, q3, q4⟩ := lq5 hC.1
      go_simp
      all_goals exact ⟨Below.refl _ _, rfl⟩
  case' n14 =>
    go_simp
    refine hK _ ?_
    clear hK K
  apply relWalk_exg ?o15 (fun K hK => ?n15)
  case o15 =>
    intro W hC hF
    first | exact relOp_off rfl rfl rfl rfl | exact relOp_none rfl rfl rfl | skip
    all_goals
      refine relOp_on rfl rfl ?_
      obtain ⟨q0, q1, q2, q3, q4⟩ := lq5 hC.1
      go_simp
      all_goals exact ⟨Below.refl _ _, rfl⟩
  case' n15 =>
    go_simp
    refine hK _ ?_
    clear hK K
  apply relWalk_exg ?o16 (fun K hK => ?n16)
  case o16 =>
    intro W hC hF
    first | exact relOp_off rfl rfl rfl rfl | exact relOp_none rfl rfl rfl | skip
    all_goals
      refine relOp_on rfl rfl ?_
      obtain ⟨q0, q1, q2, q3, q4⟩ := lq5 hC.1
      go_simp
      all_goals exact ⟨Below.refl _ _, rfl⟩
  case' n16 =>
    go_simp
    refine hK _ ?_
    clear hK K
  apply relWalk_ex rfl ?o17 (fun K hK => ?n17)
  case o17 =>
    intro W hC hF
    obtain ⟨q0, q1, q2, q3, q4⟩ := lq5 hC.1
    go_simp
    all_goals exact ⟨Below.refl _ _, rfl⟩
  case' n17 =>
    go_simp
    refine hK _ ?_
    clear hK K
  apply relWalk_ex rfl ?o18 (fun K hK => ?n18)
  case o18 =>
    intro W hC hF
    obtain ⟨q0, q1, q2, q3, q4⟩ := lq5 hC.1
    go_simp
    all_goals exact ⟨Below.refl _ _, rfl⟩
  case' n18 =>
    go_simp
    refine hK _ ?_
    clear hK K
  apply relWalk_exg ?o19 (fun K hK => ?n19)
  case o19 =>
    intro W hC hF
    first | exact relOp_off rfl rfl rfl rfl | exact relOp_none rfl rfl rfl | skip
    all_goals
      refine relOp_on rfl rfl ?_
      obtain ⟨q0, q1, q2, q3, q4⟩ := lq5 hC.1
      go_simp
      all_goals exact ⟨Below.refl _ _, rfl⟩
  case' n19 =>
    go_simp
    refine hK _ ?_
    clear hK K
  apply relWalk_exg ?o20 (fun K hK => ?n20)
  case o20 =>
    intro W hC hF
    first | exact relOp_off rfl rfl rfl rfl | exact relOp_none rfl rfl rfl | skip
    all_goals
      refine relOp_on rfl rfl ?_
      obtain ⟨q0, q1, q2, q3, q4⟩ := lq5 hC.1
      go_simp
      all_goals exact ⟨Below.refl _ _, rfl⟩
  case' n20 =>
    go_simp
    refine hK _ ?_
    clear hK K
  apply relWalk_exg ?o21 (fun K hK => ?n21)
  case o21 =>
    intro W hC hF
    first | exact relOp_off rfl rfl rfl rfl | exact relOp_none rfl rfl rfl | skip
    all_goals
      refine relOp_on rfl rfl ?_
      obtain ⟨q0, q1, q2, q3, q4⟩ := lq5 hC.1
      go_simp
      all_goals exact ⟨Below.refl _ _, rfl⟩
  case' n21 =>
    go_simp
    refine hK _ ?_
    clear hK K
  apply relWalk_exg ?o22 (fun K hK => ?n22)
  case o22 =>
    intro W hC hF
    first | exact relOp_off rfl rfl rfl rfl | exact relOp_none rfl rfl rfl | skip
    all_goals
      refine relOp_on rfl rfl ?_
      obtain ⟨q0, q1, q2, q3, q4⟩ := lq5 hC.1
      go_simp
      all_goals exact ⟨Below.refl _ _, rfl⟩
  case' n22 =>
    go_simp
    refine hK _ ?_
    clear hK K
  apply relWalk_exg ?o23 (fun K hK => ?n23)
  case o23 =>
    intro W hC hF
    first | exact relOp_off rfl rfl rfl rfl | exact relOp_none rfl rfl rfl | skip
    all_goals
      refine relOp_on rfl rfl ?_
      obtain ⟨q0, q1, q2, q3, q4⟩ := lq5 hC.1
      go_simp
      all_goals exact ⟨Below.refl _ _, rfl⟩
  case' n23 =>
    go_simp
    refine hK _ ?_
    clear hK K
  apply relWalk_exg ?o24 (fun K hK => ?n24)
  case o24 =>
    intro W hC hF
    first | exact relOp_off rfl rfl rfl rfl | exact relOp_none rfl rfl rfl | skip
    all_goals
      refine relOp_on rfl rfl ?_
      obtain ⟨q0, q1, q2, q3, q4⟩ := lq5 hC.1
      go_simp
      all_goals exact (HS.out W).mono fun e w' ⟨he, hb⟩ => ⟨he, hb⟩
  case' n24 =>
    go_simp
    refine hK _ ?_
    clear hK K
  apply relWalk_exg ?o25 (fun K hK => ?n25)
  case o25 =>
    intro W hC hF
    first | exact relOp_off rfl rfl rfl rfl | exact relOp_none rfl rfl rfl | skip
    all_goals
      refine relOp_on rfl rfl ?_
      obtain ⟨q0, q1, q2, q3, q4⟩ := lq5 hC.1
      go_simp
      all_goals exact ⟨Below.refl _ _, rfl⟩
  case' n25 =>
    go_simp
    refine hK _ ?_
    clear hK K
  apply relWalk_ex rfl ?o26 (fun K hK => ?n26)
  case o26 =>
    intro W hC hF
    obtain ⟨q0, q1, q2, q3, q4⟩ := lq5 hC.1
    go_simp
    all_goals exact ⟨Below.refl _ _, rfl⟩
  case' n26 =>
    go_simp
    refine hK _ ?_
    clear hK K
  apply relWalk_ex rfl ?o27 (fun K hK => ?n27)
  case o27 =>
    intro W hC hF
    obtain ⟨q0, q1, q2, q3, q4⟩ := lq5 hC.1
    go_simp
    all_goals exact ⟨Below.refl _ _, rfl⟩
  case' n27 =>
    go_simp
    refine hK _ ?_
    clear hK K
  apply relWalk_exg ?o28 (fun K hK => ?n28)
  case o28 =>
    intro W hC hF
    first | exact relOp_off rfl rfl rfl rfl | exact relOp_none rfl rfl rfl | skip
    all_goals
      refine relOp_on rfl rfl ?_
      obtain ⟨q0, q1, q2, q3, q4⟩ := lq5 hC.1
      go_simp
      all_goals exact ⟨Below.refl _ _, rfl⟩
  case' n28 =>
    go_simp
    refine hK _ ?_
    clear hK K
  apply relWalk_exg ?o29 (fun K hK => ?n29)
  case o29 =>
    intro W hC hF
    first | exact relOp_off rfl rfl rfl rfl | exact relOp_none rfl rfl rfl | skip
    all_goals
      refine relOp_on rfl rfl ?_
      obtain ⟨q0, q1, q2, q3, q4⟩ := lq5 hC.1
      go_simp
      all_goals exact ⟨Below.refl _ _, rfl⟩
  case' n29 =>
    go_simp
    refine hK _ ?_
    clear hK K
  apply relWalk_exg ?o30 (fun K hK => ?n30)
  case o30 =>
    intro W hC hF
    first | exact relOp_off rfl rfl rfl rfl | exact relOp_none rfl rfl rfl | skip
    all_goals
      refine relOp_on rfl rfl ?_
      obtain ⟨q0, q1, q2, q3, q4⟩ := lq5 hC.1
      go_simp
      all_goals exact ⟨Below.refl _ _, rfl⟩
  case' n30 =>
    go_simp
    refine hK _ ?_
    clear hK K
  apply relWalk_exg ?o31 (fun K hK => ?n31)
  case o31 =>
    intro W hC hF
    first | exact relOp_off rfl rfl rfl rfl | exact relOp_none rfl rfl rfl | skip
    all_goals
      refine relOp_on rfl rfl ?_
      obtain ⟨q0, q1, q2, q3, q4⟩ := lq5 hC.1
      go_simp
      all_goals exact ⟨Below.refl _ _, rfl⟩
  case' n31 =>
    go_simp
    refine hK _ ?_
    clear hK K
  apply relWalk_exg ?o32 (fun K hK => ?n32)
  case o32 =>
    intro W hC hF
    first | exact relOp_off rfl rfl rfl rfl | exact relOp_none rfl rfl rfl | skip
    all_goals
      refine relOp_on rfl rfl ?_
      obtain ⟨q0, q1, q2, q3, q4⟩ := lq5 hC.1
      go_simp
      all_goals exact ⟨Below.refl _ _, rfl⟩
  case' n32 =>
    go_simp
    refine hK _ ?_
    clear hK K
  apply relWalk_exg ?o33 (fun K hK => ?n33)
  case o33 =>
    intro W hC hF
    first | exact relOp_off rfl rfl rfl rfl | exact relOp_none rfl rfl rfl | skip
    all_goals
      refine relOp_on rfl rfl ?_
      obtain ⟨q0, q1, q2, q3, q4⟩ := lq5 hC.1
      go_simp
      all_goals exact ⟨Below.refl _ _, rfl⟩
  case' n33 =>
    go_simp
    refine hK _ ?_
    clear hK K
  apply relWalk_exg ?o34 (fun K hK => ?n34)
  case o34 =>
    intro W hC hF
    first | exact relOp_off rfl rfl rfl rfl | exact relOp_none rfl rfl rfl | skip
    all_goals
      refine relOp_on rfl rfl ?_
      obtain ⟨q0, q1, q2, q3, q4⟩ := lq5 hC.1
      go_simp
      all_goals exact ⟨Below.refl _ _, rfl⟩
  case' n34 =>
    go_simp
    refine hK _ ?_
    clear hK K
  apply relWalk_exg ?o35 (fun K hK => ?n35)
  case o35 =>
    intro W hC hF
    first | exact relOp_off rfl rfl rfl rfl | exact relOp_none rfl rfl rfl | skip
    all_goals
      refine relOp_on rfl rfl ?_
      obtain ⟨q0, q1, q2, q3, q4⟩ := lq5 hC.1
      go_simp
      all_goals exact ⟨Below.refl _ _, rfl⟩
  case' n35 =>
    go_simp
    refine hK _ ?_
    clear hK K
  apply relWalk_ex rfl ?o36 (fun K hK => ?n36)
  case o36 =>
    intro W hC hF
    obtain ⟨q0, q1, q2, q3, q4⟩ := lq5 hC.1
    go_simp
    all_goals exact ⟨Below.refl _ _, rfl⟩
  case' n36 =>
    go_simp
    refine hK _ ?_
    clear hK K
  apply relWalk_ex rfl ?o37 (fun K hK => ?n37)
  case o37 =>
    intro W hC hF
    obtain ⟨q0, q1, q2, q3, q4⟩ := lq5 hC.1
    go_simp
    all_goals exact ⟨Below.refl _ _, rfl⟩
  case' n37 =>
    go_simp
    refine hK _ ?_
    clear hK K
  apply relWalk_exg ?o38 (fun K hK => ?n38)
  case o38 =>
    intro W hC hF
    first | exact relOp_off rfl rfl rfl rfl | exact relOp_none rfl rfl rfl | skip
    all_goals
      refine relOp_on rfl rfl ?_
      obtain ⟨q0, q1, q2, q3, q4⟩ := lq5 hC.1
      go_simp
      all_goals exact ⟨Below.refl _ _, rfl⟩
  case' n38 =>
    go_simp
    refine hK _ ?_
    clear hK K
  apply relWalk_exg ?o39 (fun K hK => ?n39)
  case o39 =>
    intro W hC hF
    first | exact relOp_off rfl rfl rfl rfl | exact relOp_none rfl rfl rfl | skip
    all_goals
      refine relOp_on rfl rfl ?_
      obtain ⟨q0, q1, q2, q3, q4⟩ := lq5 hC.1
      go_simp
      all_goals exact ⟨Below.refl _ _, rfl⟩
  case' n39 =>
    go_simp
    refine hK _ ?_
    clear hK K
  apply relWalk_exg ?o40 (fun K hK => ?n40)
  case o40 =>
    intro W hC hF
    first | exact relOp_off rfl rfl rfl rfl | exact relOp_none rfl rfl rfl | skip
    all_goals
      refine relOp_on rfl rfl ?_
      obtain ⟨q0, q1, q2, q3, q4⟩ := lq5 hC.1
      go_simp
      all_goals exact (HF.out W).mono fun e w' ⟨he, hb⟩ => ⟨he, hb⟩
  case' n40 =>
    go_simp
    refine hK _ ?_
    clear hK K
  apply relWalk_ex rfl ?o41 (fun K hK => ?n41)
  case o41 =>
    intro W hC hF
    obtain ⟨q0, q1, q2, q3, q4⟩ := lq5 hC.1
    go_simp
    all_goals exact ⟨Below.refl _ _, rfl⟩
  case' n41 =>
    go_simp
    refine hK _ ?_
    clear hK K
  apply relWalk_end
  intro W hC hF hU
  clear HB1
  have HB2 := Lib.hid hC
  clear hC hU hF
  go_wp2_with fail
  refine (must_yes _ _).mono ?_
  rintro e w3 ⟨rfl, rfl⟩
  have q1 : W.cell? ⟨w.heap.size, 1, none⟩ = some (.int .i64 kd) := HB2.out.1.cell_ rfl
  go_wp2_with fail
  refine wp_region_rels 12 [[], [], [], [], [], [], [], [], [], [], [], []] [Form.val, Form.val, Form.val, Form.val, Form.val, Form.val, Form.val, Form.val, Form.val, Form.val, Form.val, Form.val] (fun W => Blk W w.heap.size 31 #[.int .i64 off, .int .i64 kd, .int .i64 sv, .string ⟨#[]⟩, .string sf, .bool is, .int .i64 y, .int .i64 m, .int .i64 d1, .int .i64 d2, .int .i64 d3, .int .i64 h1, .int .i64 h2] ∧ Below w.heap.size w W) (by kernel_rfl) (by kernel_rfl) rfl rfl (⟨HB2.out.1, HB2.out.2.drew⟩) (fun W W' h hb => ⟨h.1.below hb h.1.lt, h.2.trans (hb.mono h.2.size)⟩) trivial ?_
  repeat (first | apply exSpec_rel | apply exSpec_new | apply exSpec_val)
  apply relWalk_ex rfl ?ox0 (fun K hK => ?nx0)
  case ox0 =>
    intro W hC hF
    obtain ⟨q0, q1, q2, q3, q4, q5, q6, q7, q8, q9, q10, q11, q12⟩ := lq13 hC.1
    go_simp
    all_goals exact ⟨Below.refl _ _, rfl⟩
  case' nx0 =>
    go_simp
    refine hK _ ?_
    clear hK K
  apply relWalk_ex rfl ?ox1 (fun K hK => ?nx1)
  case ox1 =>
    intro W hC hF
    obtain ⟨q0, q1, q2, q3, q4, q5, q6, q7, q8, q9, q10, q11, q12⟩ := lq13 hC.1
    go_simp
    all_goals (first | exact ⟨Below.refl _ _, rfl⟩ | (rw [if_neg (by omega)]; exact ⟨Below.refl _ _, rfl⟩))
  case' nx1 =>
    go_simp
    refine hK _ ?_
    clear hK K
  apply relWalk_ex rfl ?ox2 (fun K hK => ?nx2)
  case ox2 =>
    intro W hC hF
    obtain ⟨q0, q1, q2, q3, q4, q5, q6, q7, q8, q9, q10, q11, q12⟩ := lq13 hC.1
    go_simp
    all_goals exact ⟨Below.refl _ _, rfl⟩
  case' nx2 =>
    go_simp
    refine hK _ ?_
    clear hK K
  apply relWalk_ex rfl ?ox3 (fun K hK => ?nx3)
  case ox3 =>
    intro W hC hF
    obtain ⟨q0, q1, q2, q3, q4, q5, q6, q7, q8, q9, q10, q11, q12⟩ := lq13 hC.1
    go_simp
    all_goals (first | exact ⟨Below.refl _ _, rfl⟩ | (rw [if_neg (by omega)]; exact ⟨Below.refl _ _, rfl⟩))
  case' nx3 =>
    go_simp
    refine hK _ ?_
    clear hK K
  apply relWalk_ex rfl ?ox4 (fun K hK => ?nx4)
  case ox4 =>
    intro W hC hF
    obtain ⟨q0, q1, q2, q3, q4, q5, q6, q7, q8, q9, q10, q11, q12⟩ := lq13 hC.1
    go_simp
    all_goals (first | exact ⟨Below.refl _ _, rfl⟩ | (rw [if_neg (by omega)]; exact ⟨Below.refl _ _, rfl⟩))
  case' nx4 =>
    go_simp
    refine hK _ ?_
    clear hK K
  apply relWalk_ex rfl ?ox5 (fun K hK => ?nx5)
  case ox5 =>
    intro W hC hF
    obtain ⟨q0, q1, q2, q3, q4, q5, q6, q7, q8, q9, q10, q11, q12⟩ := lq13 hC.1
    go_simp
    all_goals exact ⟨Below.refl _ _, rfl⟩
  case' nx5 =>
    go_simp
    refine hK _ ?_
    clear hK K
  apply relWalk_ex rfl ?ox6 (fun K hK => ?nx6)
  case ox6 =>
    intro W hC hF
    obtain ⟨q0, q1, q2, q3, q4, q5, q6, q7, q8, q9, q10, q11, q12⟩ := lq13 hC.1
    go_simp
    all_goals exact ⟨Below.refl _ _, rfl⟩
  case' nx6 =>
    go_simp
    refine hK _ ?_
    clear hK K
  apply relWalk_ex rfl ?ox7 (fun K hK => ?nx7)
  case ox7 =>
    intro W hC hF
    obtain ⟨q0, q1, q2, q3, q4, q5, q6, q7, q8, q9, q10, q11, q12⟩ := lq13 hC.1
    go_simp
    all_goals (first | exact ⟨Below.refl _ _, rfl⟩ | (rw [if_neg (by omega)]; exact ⟨Below.refl _ _, rfl⟩))
  case' nx7 =>
    go_simp
    refine hK _ ?_
    clear hK K
  apply relWalk_ex rfl ?ox8 (fun K hK => ?nx8)
  case ox8 =>
    intro W hC hF
    obtain ⟨q0, q1, q2, q3, q4, q5, q6, q7, q8, q9, q10, q11, q12⟩ := lq13 hC.1
    go_simp
    all_goals exact ⟨Below.refl _ _, rfl⟩
  case' nx8 =>
    go_simp
    refine hK _ ?_
    clear hK K
  apply relWalk_ex rfl ?ox9 (fun K hK => ?nx9)
  case ox9 =>
    intro W hC hF
    obtain ⟨q0, q1, q2, q3, q4, q5, q6, q7, q8, q9, q10, q11, q12⟩ := lq13 hC.1
    go_simp
    all_goals exact ⟨Below.refl _ _, rfl⟩
  case' nx9 =>
    go_simp
    refine hK _ ?_
    clear hK K
  apply relWalk_ex rfl ?ox10 (fun K hK => ?nx10)
  case ox10 =>
    intro W hC hF
    obtain ⟨q0, q1, q2, q3, q4, q5, q6, q7, q8, q9, q10, q11, q12⟩ := lq13 hC.1
    go_simp
    all_goals exact (HE.out W hC.2).mono fun e w' ⟨he, hb⟩ => ⟨he, hb⟩
  case' nx10 =>
    go_simp
    refine hK _ ?_
    clear hK K
  apply relWalk_ex rfl ?ox11 (fun K hK => ?nx11)
  case ox11 =>
    intro W hC hF
    obtain ⟨q0, q1, q2, q3, q4, q5, q6, q7, q8, q9, q10, q11, q12⟩ := lq13 hC.1
    go_simp
    all_goals (first | exact ⟨Below.refl _ _, rfl⟩ | (rw [if_neg (by omega)]; exact ⟨Below.refl _ _, rfl⟩))
  case' nx11 =>
    go_simp
    refine hK _ ?_
    clear hK K
  apply relWalk_end
  intro W hC hF hU
  obtain ⟨hB, hBw⟩ := hC
  have HB9 := Lib.hid hBw
  clear hB hBw hU hF
  go_wp2_with fail
  go_ret
  exact ⟨congrArg Ending.returned (congrArg Value.string (by apply ByteArray.ext; simp)), HB9.out⟩

set_option maxRecDepth 100000 in
set_option maxHeartbeats 1000000 in
theorem line_ok1 (off kd sv : Int) (sf : ByteArray) (is : Bool) (y m d1 d2 d3 h1 h2 : Int) (w : World) (ao : ByteArray) (hk : decide (0 ≤ kd) = true) (hk2 : decide (kd ≤ 2) = true) (ha : (kd == 1) = true) (hc : (kd == 2) = false) (HS : Hid (∀ W, Calls Tryz.prog 65 #[.string ⟨#[]⟩] W fun e w' => e = .returned (.bool false) ∧ Below W.heap.size W w')) (HF : Hid (∀ W, Calls Tryz.prog 49 #[.string sf] W fun e w' => e = .returned (.bool true) ∧ Below W.heap.size W w')) (hl0 : ao.size ≤ 1000) (hl1 : sf.size ≤ 1000) (as_ : ByteArray) (hl3 : as_.size ≤ 1000) (HA2 : Hid (∀ W, Below w.heap.size w W → Calls Tryz.prog 64 #[.int .i64 sv] W fun e w' => e = .returned (.string as_) ∧ Below W.heap.size W w')) (te : ByteArray) (hl2 : te.size ≤ 1000) (HE : Hid (∀ W, Below w.heap.size w W → Calls Tryz.prog 66 #[.agg #[.bool is, .int .i64 y, .int .i64 m, .int .i64 d1, .int .i64 d2, .int .i64 d3, .int .i64 h1, .int .i64 h2]] W fun e w' => e = .returned (.string te) ∧ Below W.heap.size W w'))
    (HA : Hid (∀ W, Below w.heap.size w W → Calls Tryz.prog 64 #[.int .i64 off] W fun e w' => e = .returned (.string ao) ∧ Below W.heap.size W w')) :
    Calls Tryz.prog 27 #[.agg #[.int .i64 off, .int .i64 kd, .int .i64 sv, .string ⟨#[]⟩, .string sf, .bool is, .int .i64 y, .int .i64 m, .int .i64 d1, .int .i64 d2, .int .i64 d3, .int .i64 h1, .int .i64 h2]] w fun e w' => e = .returned (.string ⟨(ao.data.toList ++ ([32] ++ (as_.data.toList ++ ([32] ++ (sf.data.toList ++ te.data.toList))))).toArray⟩) ∧ Below w.heap.size w w' := by
  have hB0 := (Below.refl w.heap.size w).alloc (Nat.le_refl _) (.cells #[.int .i64 off, .int .i64 kd, .int .i64 sv, .string ⟨#[]⟩, .string sf, .bool is, .int .i64 y, .int .i64 m, .int .i64 d1, .int .i64 d2, .int .i64 d3, .int .i64 h1, .int .i64 h2] 31)
  have HB0 := Lib.hid (And.intro (Blk.new' w 31 #[.int .i64 off, .int .i64 kd, .int .i64 sv, .string ⟨#[]⟩, .string sf, .bool is, .int .i64 y, .int .i64 m, .int .i64 d1, .int .i64 d2, .int .i64 d3, .int .i64 h1, .int .i64 h2] rfl) hB0)
  clear hB0
  go_enter Tryz.func27, Tryz.ntmps27
  go_wp2_with fail
  refine (HA.out _ HB0.out.2).mono ?_
  rintro e w1 ⟨rfl, hb1⟩
  have HB1 := Lib.hid (And.intro (HB0.out.1.below hb1 HB0.out.1.lt) (HB0.out.2.trans (hb1.mono HB0.out.2.size)))
  clear hb1 HB0 HA
  go_wp2_with fail
  refine wp_region_rels 42 [[], [], [], [], [], [], [], [], [], [], [], [], [], [], [], [], [], [], [], [], [], [], [], [], [], [], [], [], [], [], [], [], [], [], [], [], [], [], [], [], [], []] [Form.val, Form.val, Form.val, Form.val, Form.val, Form.val, Form.val, Form.val, Form.val, Form.val, Form.val, Form.val, Form.val, Form.val, Form.val, Form.val, Form.val, Form.val, Form.val, Form.val, Form.val, Form.val, Form.val, Form.val, Form.val, Form.val, Form.val, Form.val, Form.val, Form.val, Form.val, Form.val, Form.val, Form.val, Form.val, Form.val, Form.val, Form.val, Form.val, Form.val, Form.val, Form.val] (fun W => Blk W w.heap.size 31 #[.int .i64 off, .int .i64 kd, .int .i64 sv, .string ⟨#[]⟩, .string sf, .bool is, .int .i64 y, .int .i64 m, .int .i64 d1, .int .i64 d2, .int .i64 d3, .int .i64 h1, .int .i64 h2] ∧ Below w.heap.size w W) (by kernel_rfl) (by kernel_rfl) rfl rfl (⟨HB1.out.1, HB1.out.2.drew⟩) (fun W W' h hb => ⟨h.1.below hb h.1.lt, h.2.trans (hb.mono h.2.size)⟩) trivial ?_
  repeat (first | apply exSpec_rel | apply exSpec_new | apply exSpec_val)
  apply relWalk_ex rfl ?o0 (fun K hK => ?n0)
  case o0 =>
    intro W hC hF
    obtain ⟨q0, q1, q2, q3, q4⟩ := lq5 hC.1
    go_simp
    all_goals exact ⟨Below.refl _ _, rfl⟩
  case' n0 =>
    go_simp
    refine hK _ ?_
    clear hK K
  apply relWalk_ex rfl ?o1 (fun K hK => ?n1)
  case o1 =>
    intro W hC hF
    obtain ⟨q0, q1, q2, q3, q4⟩ := lq5 hC.1
    go_simp
    all_goals exact ⟨Below.refl _ _, rfl⟩
  case' n1 =>
    go_simp
    refine hK _ ?_
    clear hK K
  apply relWalk_ex rfl ?o2 (fun K hK => ?n2)
  case o2 =>
    intro W hC hF
    obtain ⟨q0, q1, q2, q3, q4⟩ := lq5 hC.1
    go_simp
    all_goals exact ⟨Below.refl _ _, rfl⟩
  case' n2 =>
    go_simp
    refine hK _ ?_
    clear hK K
  apply relWalk_ex rfl ?o3 (fun K hK => ?n3)
  case o3 =>
    intro W hC hF
    obtain ⟨q0, q1, q2, q3, q4⟩ := lq5 hC.1
    go_simp
    all_goals exact ⟨Below.refl _ _, rfl⟩
  case' n3 =>
    go_simp
    refine hK _ ?_
    clear hK K
  apply relWalk_exg ?o4 (fun K hK => ?n4)
  case o4 =>
    intro W hC hF
    first | exact relOp_off rfl rfl rfl rfl | exact relOp_none rfl rfl rfl | skip
    all_goals
      refine relOp_on rfl rfl ?_
      obtain ⟨q0, q1, q2, q3, q4⟩ := lq5 hC.1
      go_simp
      all_goals exact ⟨Below.refl _ _, rfl⟩
  case' n4 =>
    go_simp
    refine hK _ ?_
    clear hK K
  apply relWalk_exg ?o5 (fun K hK => ?n5)
  case o5 =>
    intro W hC hF
    first | exact relOp_off rfl rfl rfl rfl | exact relOp_none rfl rfl rfl | skip
    all_goals
      refine relOp_on rfl rfl ?_
      obtain ⟨q0, q1, q2, q3, q4⟩ := lq5 hC.1
      go_simp
      all_goals exact ⟨Below.refl _ _, rfl⟩
  case' n5 =>
    go_simp
    refine hK _ ?_
    clear hK K
  apply relWalk_exg ?o6 (fun K hK => ?n6)
  case o6 =>
    intro W hC hF
    first | exact relOp_off rfl rfl rfl rfl | exact relOp_none rfl rfl rfl | skip
    all_goals
      refine relOp_on rfl rfl ?_
      obtain ⟨q0, q1, q2, q3, q4⟩ := lq5 hC.1
      go_simp
      all_goals exact ⟨Below.refl _ _, rfl⟩
  case' n6 =>
    go_simp
    refine hK _ ?_
    clear hK K
  apply relWalk_ex rfl ?o7 (fun K hK => ?n7)
  case o7 =>
    intro W hC hF
    obtain ⟨q0, q1, q2, q3, q4⟩ := lq5 hC.1
    go_simp
    all_goals exact ⟨Below.refl _ _, rfl⟩
  case' n7 =>
    go_simp
    refine hK _ ?_
    clear hK K
  apply relWalk_ex rfl ?o8 (fun K hK => ?n8)
  case o8 =>
    intro W hC hF
    obtain ⟨q0, q1, q2, q3, q4⟩ := lq5 hC.1
    go_simp
    all_goals exact ⟨Below.refl _ _, rfl⟩
  case' n8 =>
    go_simp
    refine hK _ ?_
    clear hK K
  apply relWalk_exg ?o9 (fun K hK => ?n9)
  case o9 =>
    intro W hC hF
    first | exact relOp_off rfl rfl rfl rfl | exact relOp_none rfl rfl rfl | skip
    all_goals
      refine relOp_on rfl rfl ?_
      obtain ⟨q0, q1, q2, q3, q4⟩ := lq5 hC.1
      go_simp
      all_goals exact ⟨Below.refl _ _, rfl⟩
  case' n9 =>
    go_simp
    refine hK _ ?_
    clear hK K
  apply relWalk_exg ?o10 (fun K hK => ?n10)
  case o10 =>
    intro W hC hF
    first | exact relOp_off rfl rfl rfl rfl | exact relOp_none rfl rfl rfl | skip
    all_goals
      refine relOp_on rfl rfl ?_
      obtain ⟨q0, q1, q2, q3, q4⟩ := lq5 hC.1
      go_simp
      all_goals exact ⟨Below.refl _ _, rfl⟩
  case' n10 =>
    go_simp
    refine hK _ ?_
    clear hK K
  apply relWalk_exg ?o11 (fun K hK => ?n11)
  case o11 =>
    intro W hC hF
    first | exact relOp_off rfl rfl rfl rfl | exact relOp_none rfl rfl rfl | skip
    all_goals
      refine relOp_on rfl rfl ?_
      obtain ⟨q0, q1, q2, q3, q4⟩ := lq5 hC.1
      go_simp
      all_goals exact ⟨Below.refl _ _, rfl⟩
  case' n11 =>
    go_simp
    refine hK _ ?_
    clear hK K
  apply relWalk_exg ?o12 (fun K hK => ?n12)
  case o12 =>
    intro W hC hF
    first | exact relOp_off rfl rfl rfl rfl | exact relOp_none rfl rfl rfl | skip
    all_goals
      refine relOp_on rfl rfl ?_
      obtain ⟨q0, q1, q2, q3, q4⟩ := lq5 hC.1
      go_simp
      all_goals exact ⟨Below.refl _ _, rfl⟩
  case' n12 =>
    go_simp
    refine hK _ ?_
    clear hK K
  apply relWalk_exg ?o13 (fun K hK => ?n13)
  case o13 =>
    intro W hC hF
    first | exact relOp_off rfl rfl rfl rfl | exact relOp_none rfl rfl rfl | skip
    all_goals
      refine relOp_on rfl rfl ?_
      obtain ⟨q0, q1, q2, q3, q4⟩ := lq5 hC.1
      go_simp
      all_goals exact ⟨Below.refl _ _, rfl⟩
  case' n13 =>
    go_simp
    refine hK _ ?_
    clear hK K
  apply relWalk_exg ?o14 (fun K hK => ?n14)
  case o14 =>
    intro W hC hF
    first | exact relOp_off rfl rfl rfl rfl | exact relOp_none rfl rfl rfl | skip
    all_goals
      refine relOp_on rfl rfl ?_
      obtain ⟨q0, q1, q2, q3, q4⟩ := lq5 hC.1
      go_simp
      all_goals exact ⟨Below.refl _ _, rfl⟩
  case' n14 =>
    go_simp
    refine hK _ ?_
    clear hK K
  apply relWalk_exg ?o15 (fun K hK => ?n15)
  case o15 =>
    intro W hC hF
    first | exact relOp_off rfl rfl rfl rfl | exact relOp_none rfl rfl rfl | skip
    all_goals
      refine relOp_on rfl rfl ?_
      obtain ⟨q0, q1, q2, q3, q4⟩ := lq5 hC.1
      go_simp
      all_goals exact ⟨Below.refl _ _, rfl⟩
  case' n15 =>
    go_simp
    refine hK _ ?_
    clear hK K
  apply relWalk_exg ?o16 (fun K hK => ?n16)
  case o16 =>
    intro W hC hF
    first | exact relOp_off rfl rfl rfl rfl | exact relOp_none rfl rfl rfl | skip
    all_goals
      refine relOp_on rfl rfl ?_
      obtain ⟨q0, q1, q2, q3, q4⟩ := lq5 hC.1
      go_simp
      all_goals exact ⟨Below.refl _ _, rfl⟩
  case' n16 =>
    go_simp
    refine hK _ ?_
    clear hK K
  apply relWalk_ex rfl ?o17 (fun K hK => ?n17)
  case o17 =>
    intro W hC hF
    obtain ⟨q0, q1, q2, q3, q4⟩ := lq5 hC.1
    go_simp
    all_goals exact ⟨Below.refl _ _, rfl⟩
  case' n17 =>
    go_simp
    refine hK _ ?_
    clear hK K
  apply relWalk_ex rfl ?o18 (fun K hK => ?n18)
  case o18 =>
    intro W hC hF
    obtain ⟨q0, q1, q2, q3, q4⟩ := lq5 hC.1
    go_simp
    all_goals exact ⟨Below.refl _ _, rfl⟩
  case' n18 =>
    go_simp
    refine hK _ ?_
    clear hK K
  apply relWalk_exg ?o19 (fun K hK => ?n19)
  case o19 =>
    intro W hC hF
    first | exact relOp_off rfl rfl rfl rfl | exact relOp_none rfl rfl rfl | skip
    all_goals
      refine relOp_on rfl rfl ?_
      obtain ⟨q0, q1, q2, q3, q4⟩ := lq5 hC.1
      go_simp
      all_goals exact ⟨Below.refl _ _, rfl⟩
  case' n19 =>
    go_simp
    refine hK _ ?_
    clear hK K
  apply relWalk_exg ?o20 (fun K hK => ?n20)
  case o20 =>
    intro W hC hF
    first | exact relOp_off rfl rfl rfl rfl | exact relOp_none rfl rfl rfl | skip
    all_goals
      refine relOp_on rfl rfl ?_
      obtain ⟨q0, q1, q2, q3, q4⟩ := lq5 hC.1
      go_simp
      all_goals exact ⟨Below.refl _ _, rfl⟩
  case' n20 =>
    go_simp
    refine hK _ ?_
    clear hK K
  apply relWalk_exg ?o21 (fun K hK => ?n21)
  case o21 =>
    intro W hC hF
    first | exact relOp_off rfl rfl rfl rfl | exact relOp_none rfl rfl rfl | skip
    all_goals
      refine relOp_on rfl rfl ?_
      obtain ⟨q0, q1, q2, q3, q4⟩ := lq5 hC.1
      go_simp
      all_goals exact ⟨Below.refl _ _, rfl⟩
  case' n21 =>
    go_simp
    refine hK _ ?_
    clear hK K
  apply relWalk_exg ?o22 (fun K hK => ?n22)
  case o22 =>
    intro W hC hF
    first | exact relOp_off rfl rfl rfl rfl | exact relOp_none rfl rfl rfl | skip
    all_goals
      refine relOp_on rfl rfl ?_
      obtain ⟨q0, q1, q2, q3, q4⟩ := lq5 hC.1
      go_simp
      all_goals exact ⟨Below.refl _ _, rfl⟩
  case' n22 =>
    go_simp
    refine hK _ ?_
    clear hK K
  apply relWalk_exg ?o23 (fun K hK => ?n23)
  case o23 =>
    intro W hC hF
    first | exact relOp_off rfl rfl rfl rfl | exact relOp_none rfl rfl rfl | skip
    all_goals
      refine relOp_on rfl rfl ?_
      obtain ⟨q0, q1, q2, q3, q4⟩ := lq5 hC.1
      go_simp
      all_goals exact ⟨Below.refl _ _, rfl⟩
  case' n23 =>
    go_simp
    refine hK _ ?_
    clear hK K
  apply relWalk_exg ?o24 (fun K hK => ?n24)
  case o24 =>
    intro W hC hF
    first | exact relOp_off rfl rfl rfl rfl | exact relOp_none rfl rfl rfl | skip
    all_goals
      refine relOp_on rfl rfl ?_
      obtain ⟨q0, q1, q2, q3, q4⟩ := lq5 hC.1
      go_simp
      all_goals exact (HS.out W).mono fun e w' ⟨he, hb⟩ => ⟨he, hb⟩
  case' n24 =>
    go_simp
    refine hK _ ?_
    clear hK K
  apply relWalk_exg ?o25 (fun K hK => ?n25)
  case o25 =>
    intro W hC hF
    first | exact relOp_off rfl rfl rfl rfl | exact relOp_none rfl rfl rfl | skip
    all_goals
      refine relOp_on rfl rfl ?_
      obtain ⟨q0, q1, q2, q3, q4⟩ := lq5 hC.1
      go_simp
      all_goals exact ⟨Below.refl _ _, rfl⟩
  case' n25 =>
    go_simp
    refine hK _ ?_
    clear hK K
  apply relWalk_ex rfl ?o26 (fun K hK => ?n26)
  case o26 =>
    intro W hC hF
    obtain ⟨q0, q1, q2, q3, q4⟩ := lq5 hC.1
    go_simp
    all_goals exact ⟨Below.refl _ _, rfl⟩
  case' n26 =>
    go_simp
    refine hK _ ?_
    clear hK K
  apply relWalk_ex rfl ?o27 (fun K hK => ?n27)
  case o27 =>
    intro W hC hF
    obtain ⟨q0, q1, q2, q3, q4⟩ := lq5 hC.1
    go_simp
    all_goals exact ⟨Below.refl _ _, rfl⟩
  case' n27 =>
    go_simp
    refine hK _ ?_
    clear hK K
  apply relWalk_exg ?o28 (fun K hK => ?n28)
  case o28 =>
    intro W hC hF
    first | exact relOp_off rfl rfl rfl rfl | exact relOp_none rfl rfl rfl | skip
    all_goals
      refine relOp_on rfl rfl ?_
      obtain ⟨q0, q1, q2, q3, q4⟩ := lq5 hC.1
      go_simp
      all_goals exact ⟨Below.refl _ _, rfl⟩
  case' n28 =>
    go_simp
    refine hK _ ?_
    clear hK K
  apply relWalk_exg ?o29 (fun K hK => ?n29)
  case o29 =>
    intro W hC hF
    first | exact relOp_off rfl rfl rfl rfl | exact relOp_none rfl rfl rfl | skip
    all_goals
      refine relOp_on rfl rfl ?_
      obtain ⟨q0, q1, q2, q3, q4⟩ := lq5 hC.1
      go_simp
      all_goals exact ⟨Below.refl _ _, rfl⟩
  case' n29 =>
    go_simp
    refine hK _ ?_
    clear hK K
  apply relWalk_exg ?o30 (fun K hK => ?n30)
  case o30 =>
    intro W hC hF
    first | exact relOp_off rfl rfl rfl rfl | exact relOp_none rfl rfl rfl | skip
    all_goals
      refine relOp_on rfl rfl ?_
      obtain ⟨q0, q1, q2, q3, q4⟩ := lq5 hC.1
      go_simp
      all_goals exact ⟨Below.refl _ _, rfl⟩
  case' n30 =>
    go_simp
    refine hK _ ?_
    clear hK K
  apply relWalk_exg ?o31 (fun K hK => ?n31)
  case o31 =>
    intro W hC hF
    first | exact relOp_off rfl rfl rfl rfl | exact relOp_none rfl rfl rfl | skip
    all_goals
      refine relOp_on rfl rfl ?_
      obtain ⟨q0, q1, q2, q3, q4⟩ := lq5 hC.1
      go_simp
      all_goals exact ⟨Below.refl _ _, rfl⟩
  case' n31 =>
    go_simp
    refine hK _ ?_
    clear hK K
  apply relWalk_exg ?o32 (fun K hK => ?n32)
  case o32 =>
    intro W hC hF
    first | exact relOp_off rfl rfl rfl rfl | exact relOp_none rfl rfl rfl | skip
    all_goals
      refine relOp_on rfl rfl ?_
      obtain ⟨q0, q1, q2, q3, q4⟩ := lq5 hC.1
      go_simp
      all_goals exact ⟨Below.refl _ _, rfl⟩
  case' n32 =>
    go_simp
    refine hK _ ?_
    clear hK K
  apply relWalk_exg ?o33 (fun K hK => ?n33)
  case o33 =>
    intro W hC hF
    first | exact relOp_off rfl rfl rfl rfl | exact relOp_none rfl rfl rfl | skip
    all_goals
      refine relOp_on rfl rfl ?_
      obtain ⟨q0, q1, q2, q3, q4⟩ := lq5 hC.1
      go_simp
      all_goals exact ⟨Below.refl _ _, rfl⟩
  case' n33 =>
    go_simp
    refine hK _ ?_
    clear hK K
  apply relWalk_exg ?o34 (fun K hK => ?n34)
  case o34 =>
    intro W hC hF
    first | exact relOp_off rfl rfl rfl rfl | exact relOp_none rfl rfl rfl | skip
    all_goals
      refine relOp_on rfl rfl ?_
      obtain ⟨q0, q1, q2, q3, q4⟩ := lq5 hC.1
      go_simp
      all_goals exact ⟨Below.refl _ _, rfl⟩
  case' n34 =>
    go_simp
    refine hK _ ?_
    clear hK K
  apply relWalk_exg ?o35 (fun K hK => ?n35)
  case o35 =>
    intro W hC hF
    first | exact relOp_off rfl rfl rfl rfl | exact relOp_none rfl rfl rfl | skip
    all_goals
      refine relOp_on rfl rfl ?_
      obtain ⟨q0, q1, q2, q3, q4⟩ := lq5 hC.1
      go_simp
      all_goals exact ⟨Below.refl _ _, rfl⟩
  case' n35 =>
    go_simp
    refine hK _ ?_
    clear hK K
  apply relWalk_ex rfl ?o36 (fun K hK => ?n36)
  case o36 =>
    intro W hC hF
    obtain ⟨q0, q1, q2, q3, q4⟩ := lq5 hC.1
    go_simp
    all_goals exact ⟨Below.refl _ _, rfl⟩
  case' n36 =>
    go_simp
    refine hK _ ?_
    clear hK K
  apply relWalk_ex rfl ?o37 (fun K hK => ?n37)
  case o37 =>
    intro W hC hF
    obtain ⟨q0, q1, q2, q3, q4⟩ := lq5 hC.1
    go_simp
    all_goals exact ⟨Below.refl _ _, rfl⟩
  case' n37 =>
    go_simp
    refine hK _ ?_
    clear hK K
  apply relWalk_exg ?o38 (fun K hK => ?n38)
  case o38 =>
    intro W hC hF
    first | exact relOp_off rfl rfl rfl rfl | exact relOp_none rfl rfl rfl | skip
    all_goals
      refine relOp_on rfl rfl ?_
      obtain ⟨q0, q1, q2, q3, q4⟩ := lq5 hC.1
      go_simp
      all_goals exact ⟨Below.refl _ _, rfl⟩
  case' n38 =>
    go_simp
    refine hK _ ?_
    clear hK K
  apply relWalk_exg ?o39 (fun K hK => ?n39)
  case o39 =>
    intro W hC hF
    first | exact relOp_off rfl rfl rfl rfl | exact relOp_none rfl rfl rfl | skip
    all_goals
      refine relOp_on rfl rfl ?_
      obtain ⟨q0, q1, q2, q3, q4⟩ := lq5 hC.1
      go_simp
      all_goals exact ⟨Below.refl _ _, rfl⟩
  case' n39 =>
    go_simp
    refine hK _ ?_
    clear hK K
  apply relWalk_exg ?o40 (fun K hK => ?n40)
  case o40 =>
    intro W hC hF
    first | exact relOp_off rfl rfl rfl rfl | exact relOp_none rfl rfl rfl | skip
    all_goals
      refine relOp_on rfl rfl ?_
      obtain ⟨q0, q1, q2, q3, q4⟩ := lq5 hC.1
      go_simp
      all_goals exact (HF.out W).mono fun e w' ⟨he, hb⟩ => ⟨he, hb⟩
  case' n40 =>
    go_simp
    refine hK _ ?_
    clear hK K
  apply relWalk_ex rfl ?o41 (fun K hK => ?n41)
  case o41 =>
    intro W hC hF
    obtain ⟨q0, q1, q2, q3, q4⟩ := lq5 hC.1
    go_simp
    all_goals exact ⟨Below.refl _ _, rfl⟩
  case' n41 =>
    go_simp
    refine hK _ ?_
    clear hK K
  apply relWalk_end
  intro W hC hF hU
  clear HB1
  have HB2 := Lib.hid hC
  clear hC hU hF
  go_wp2_with fail
  refine (must_yes _ _).mono ?_
  rintro e w3 ⟨rfl, rfl⟩
  have q1 : W.cell? ⟨w.heap.size, 1, none⟩ = some (.int .i64 kd) := HB2.out.1.cell_ rfl
  have q2 : W.cell? ⟨w.heap.size, 2, none⟩ = some (.int .i64 sv) := HB2.out.1.cell_ rfl
  go_wp2_with fail
  refine (HA2.out _ HB2.out.2).mono ?_
  rintro e w4 ⟨rfl, hb4⟩
  have HB4 := Lib.hid (And.intro (HB2.out.1.below hb4 HB2.out.1.lt) (HB2.out.2.trans (hb4.mono HB2.out.2.size)))
  clear hb4 HB2 HA2 q1 q2
  go_wp2_with fail
  refine wp_region_rels 12 [[], [], [], [], [], [], [], [], [], [], [], []] [Form.val, Form.val, Form.val, Form.val, Form.val, Form.val, Form.val, Form.val, Form.val, Form.val, Form.val, Form.val] (fun W => Blk W w.heap.size 31 #[.int .i64 off, .int .i64 kd, .int .i64 sv, .string ⟨#[]⟩, .string sf, .bool is, .int .i64 y, .int .i64 m, .int .i64 d1, .int .i64 d2, .int .i64 d3, .int .i64 h1, .int .i64 h2] ∧ Below w.heap.size w W) (by kernel_rfl) (by kernel_rfl) rfl rfl (⟨HB4.out.1, HB4.out.2.drew⟩) (fun W W' h hb => ⟨h.1.below hb h.1.lt, h.2.trans (hb.mono h.2.size)⟩) trivial ?_
  repeat (first | apply exSpec_rel | apply exSpec_new | apply exSpec_val)
  apply relWalk_ex rfl ?ox0 (fun K hK => ?nx0)
  case ox0 =>
    intro W hC hF
    obtain ⟨q0, q1, q2, q3, q4, q5, q6, q7, q8, q9, q10, q11, q12⟩ := lq13 hC.1
    go_simp
    all_goals exact ⟨Below.refl _ _, rfl⟩
  case' nx0 =>
    go_simp
    refine hK _ ?_
    clear hK K
  apply relWalk_ex rfl ?ox1 (fun K hK => ?nx1)
  case ox1 =>
    intro W hC hF
    obtain ⟨q0, q1, q2, q3, q4, q5, q6, q7, q8, q9, q10, q11, q12⟩ := lq13 hC.1
    go_simp
    all_goals (first | exact ⟨Below.refl _ _, rfl⟩ | (rw [if_neg (by omega)]; exact ⟨Below.refl _ _, rfl⟩))
  case' nx1 =>
    go_simp
    refine hK _ ?_
    clear hK K
  apply relWalk_ex rfl ?ox2 (fun K hK => ?nx2)
  case ox2 =>
    intro W hC hF
    obtain ⟨q0, q1, q2, q3, q4, q5, q6, q7, q8, q9, q10, q11, q12⟩ := lq13 hC.1
    go_simp
    all_goals exact ⟨Below.refl _ _, rfl⟩
  case' nx2 =>
    go_simp
    refine hK _ ?_
    clear hK K
  apply relWalk_ex rfl ?ox3 (fun K hK => ?nx3)
  case ox3 =>
    intro W hC hF
    obtain ⟨q0, q1, q2, q3, q4, q5, q6, q7, q8, q9, q10, q11, q12⟩ := lq13 hC.1
    go_simp
    all_goals (first | exact ⟨Below.refl _ _, rfl⟩ | (rw [if_neg (by omega)]; exact ⟨Below.refl _ _, rfl⟩))
  case' nx3 =>
    go_simp
    refine hK _ ?_
    clear hK K
  apply relWalk_ex rfl ?ox4 (fun K hK => ?nx4)
  case ox4 =>
    intro W hC hF
    obtain ⟨q0, q1, q2, q3, q4, q5, q6, q7, q8, q9, q10, q11, q12⟩ := lq13 hC.1
    go_simp
    all_goals (first | exact ⟨Below.refl _ _, rfl⟩ | (rw [if_neg (by omega)]; exact ⟨Below.refl _ _, rfl⟩))
  case' nx4 =>
    go_simp
    refine hK _ ?_
    clear hK K
  apply relWalk_ex rfl ?ox5 (fun K hK => ?nx5)
  case ox5 =>
    intro W hC hF
    obtain ⟨q0, q1, q2, q3, q4, q5, q6, q7, q8, q9, q10, q11, q12⟩ := lq13 hC.1
    go_simp
    all_goals exact ⟨Below.refl _ _, rfl⟩
  case' nx5 =>
    go_simp
    refine hK _ ?_
    clear hK K
  apply relWalk_ex rfl ?ox6 (fun K hK => ?nx6)
  case ox6 =>
    intro W hC hF
    obtain ⟨q0, q1, q2, q3, q4, q5, q6, q7, q8, q9, q10, q11, q12⟩ := lq13 hC.1
    go_simp
    all_goals exact ⟨Below.refl _ _, rfl⟩
  case' nx6 =>
    go_simp
    refine hK _ ?_
    clear hK K
  apply relWalk_ex rfl ?ox7 (fun K hK => ?nx7)
  case ox7 =>
    intro W hC hF
    obtain ⟨q0, q1, q2, q3, q4, q5, q6, q7, q8, q9, q10, q11, q12⟩ := lq13 hC.1
    go_simp
    all_goals (first | exact ⟨Below.refl _ _, rfl⟩ | (rw [if_neg (by omega)]; exact ⟨Below.refl _ _, rfl⟩))
  case' nx7 =>
    go_simp
    refine hK _ ?_
    clear hK K
  apply relWalk_ex rfl ?ox8 (fun K hK => ?nx8)
  case ox8 =>
    intro W hC hF
    obtain ⟨q0, q1, q2, q3, q4, q5, q6, q7, q8, q9, q10, q11, q12⟩ := lq13 hC.1
    go_simp
    all_goals exact ⟨Below.refl _ _, rfl⟩
  case' nx8 =>
    go_simp
    refine hK _ ?_
    clear hK K
  apply relWalk_ex rfl ?ox9 (fun K hK => ?nx9)
  case ox9 =>
    intro W hC hF
    obtain ⟨q0, q1, q2, q3, q4, q5, q6, q7, q8, q9, q10, q11, q12⟩ := lq13 hC.1
    go_simp
    all_goals exact ⟨Below.refl _ _, rfl⟩
  case' nx9 =>
    go_simp
    refine hK _ ?_
    clear hK K
  apply relWalk_ex rfl ?ox10 (fun K hK => ?nx10)
  case ox10 =>
    intro W hC hF
    obtain ⟨q0, q1, q2, q3, q4, q5, q6, q7, q8, q9, q10, q11, q12⟩ := lq13 hC.1
    go_simp
    all_goals exact (HE.out W hC.2).mono fun e w' ⟨he, hb⟩ => ⟨he, hb⟩
  case' nx10 =>
    go_simp
    refine hK _ ?_
    clear hK K
  apply relWalk_ex rfl ?ox11 (fun K hK => ?nx11)
  case ox11 =>
    intro W hC hF
    obtain ⟨q0, q1, q2, q3, q4, q5, q6, q7, q8, q9, q10, q11, q12⟩ := lq13 hC.1
    go_simp
    all_goals (first | exact ⟨Below.refl _ _, rfl⟩ | (rw [if_neg (by omega)]; exact ⟨Below.refl _ _, rfl⟩))
  case' nx11 =>
    go_simp
    refine hK _ ?_
    clear hK K
  apply relWalk_end
  intro W hC hF hU
  obtain ⟨hB, hBw⟩ := hC
  have HB9 := Lib.hid hBw
  clear hB hBw hU hF
  go_wp2_with fail
  go_ret
  exact ⟨congrArg Ending.returned (congrArg Value.string (by apply ByteArray.ext; simp)), HB9.out⟩

set_option maxRecDepth 100000 in
set_option maxHeartbeats 1000000 in
theorem line_no1 (off kd sv : Int) (sf : ByteArray) (is : Bool) (y m d1 d2 d3 h1 h2 : Int) (w : World) (ao : ByteArray) (hk : decide (0 ≤ kd) = true) (hk2 : decide (kd ≤ 2) = true) (ha : (kd == 1) = true) (hc : (kd == 2) = false) (HS : Hid (∀ W, Calls Tryz.prog 65 #[.string ⟨#[]⟩] W fun e w' => e = .returned (.bool false) ∧ Below W.heap.size W w')) (HF : Hid (∀ W, Calls Tryz.prog 49 #[.string sf] W fun e w' => e = .returned (.bool true) ∧ Below W.heap.size W w')) (hl0 : ao.size ≤ 1000) (hl1 : sf.size ≤ 1000) (HA2 : Hid (∀ W, Below w.heap.size w W → Calls Tryz.prog 64 #[.int .i64 sv] W fun e w' => e = Fails 2 ∧ Below W.heap.size W w'))
    (HA : Hid (∀ W, Below w.heap.size w W → Calls Tryz.prog 64 #[.int .i64 off] W fun e w' => e = .returned (.string ao) ∧ Below W.heap.size W w')) :
    Calls Tryz.prog 27 #[.agg #[.int .i64 off, .int .i64 kd, .int .i64 sv, .string ⟨#[]⟩, .string sf, .bool is, .int .i64 y, .int .i64 m, .int .i64 d1, .int .i64 d2, .int .i64 d3, .int .i64 h1, .int .i64 h2]] w fun e w' => e = Fails 2 ∧ Below w.heap.size w w' := by
  have hB0 := (Below.refl w.heap.size w).alloc (Nat.le_refl _) (.cells #[.int .i64 off, .int .i64 kd, .int .i64 sv, .string ⟨#[]⟩, .string sf, .bool is, .int .i64 y, .int .i64 m, .int .i64 d1, .int .i64 d2, .int .i64 d3, .int .i64 h1, .int .i64 h2] 31)
  have HB0 := Lib.hid (And.intro (Blk.new' w 31 #[.int .i64 off, .int .i64 kd, .int .i64 sv, .string ⟨#[]⟩, .string sf, .bool is, .int .i64 y, .int .i64 m, .int .i64 d1, .int .i64 d2, .int .i64 d3, .int .i64 h1, .int .i64 h2] rfl) hB0)
  clear hB0
  go_enter Tryz.func27, Tryz.ntmps27
  go_wp2_with fail
  refine (HA.out _ HB0.out.2).mono ?_
  rintro e w1 ⟨rfl, hb1⟩
  have HB1 := Lib.hid (And.intro (HB0.out.1.below hb1 HB0.out.1.lt) (HB0.out.2.trans (hb1.mono HB0.out.2.size)))
  clear hb1 HB0 HA
  go_wp2_with fail
  refine wp_region_rels 42 [[], [], [], [], [], [], [], [], [], [], [], [], [], [], [], [], [], [], [], [], [], [], [], [], [], [], [], [], [], [], [], [], [], [], [], [], [], [], [], [], [], []] [Form.val, Form.val, Form.val, Form.val, Form.val, Form.val, Form.val, Form.val, Form.val, Form.val, Form.val, Form.val, Form.val, Form.val, Form.val, Form.val, Form.val, Form.val, Form.val, Form.val, Form.val, Form.val, Form.val, Form.val, Form.val, Form.val, Form.val, Form.val, Form.val, Form.val, Form.val, Form.val, Form.val, Form.val, Form.val, Form.val, Form.val, Form.val, Form.val, Form.val, Form.val, Form.val] (fun W => Blk W w.heap.size 31 #[.int .i64 off, .int .i64 kd, .int .i64 sv, .string ⟨#[]⟩, .string sf, .bool is, .int .i64 y, .int .i64 m, .int .i64 d1, .int .i64 d2, .int .i64 d3, .int .i64 h1, .int .i64 h2] ∧ Below w.heap.size w W) (by kernel_rfl) (by kernel_rfl) rfl rfl (⟨HB1.out.1, HB1.out.2.drew⟩) (fun W W' h hb => ⟨h.1.below hb h.1.lt, h.2.trans (hb.mono h.2.size)⟩) trivial ?_
  repeat (first | apply exSpec_rel | apply exSpec_new | apply exSpec_val)
  apply relWalk_ex rfl ?o0 (fun K hK => ?n0)
  case o0 =>
    intro W hC hF
    obtain ⟨q0, q1, q2, q3, q4⟩ := lq5 hC.1
    go_simp
    all_goals exact ⟨Below.refl _ _, rfl⟩
  case' n0 =>
    go_simp
    refine hK _ ?_
    clear hK K
  apply relWalk_ex rfl ?o1 (fun K hK => ?n1)
  case o1 =>
    intro W hC hF
    obtain ⟨q0, q1, q2, q3, q4⟩ := lq5 hC.1
    go_simp
    all_goals exact ⟨Below.refl _ _, rfl⟩
  case' n1 =>
    go_simp
    refine hK _ ?_
    clear hK K
  apply relWalk_ex rfl ?o2 (fun K hK => ?n2)
  case o2 =>
    intro W hC hF
    obtain ⟨q0, q1, q2, q3, q4⟩ := lq5 hC.1
    go_simp
    all_goals exact ⟨Below.refl _ _, rfl⟩
  case' n2 =>
    go_simp
    refine hK _ ?_
    clear hK K
  apply relWalk_ex rfl ?o3 (fun K hK => ?n3)
  case o3 =>
    intro W hC hF
    obtain ⟨q0, q1, q2, q3, q4⟩ := lq5 hC.1
    go_simp
    all_goals exact ⟨Below.refl _ _, rfl⟩
  case' n3 =>
    go_simp
    refine hK _ ?_
    clear hK K
  apply relWalk_exg ?o4 (fun K hK => ?n4)
  case o4 =>
    intro W hC hF
    first | exact relOp_off rfl rfl rfl rfl | exact relOp_none rfl rfl rfl | skip
    all_goals
      refine relOp_on rfl rfl ?_
      obtain ⟨q0, q1, q2, q3, q4⟩ := lq5 hC.1
      go_simp
      all_goals exact ⟨Below.refl _ _, rfl⟩
  case' n4 =>
    go_simp
    refine hK _ ?_
    clear hK K
  apply relWalk_exg ?o5 (fun K hK => ?n5)
  case o5 =>
    intro W hC hF
    first | exact relOp_off rfl rfl rfl rfl | exact relOp_none rfl rfl rfl | skip
    all_goals
      refine relOp_on rfl rfl ?_
      obtain ⟨q0, q1, q2, q3, q4⟩ := lq5 hC.1
      go_simp
      all_goals exact ⟨Below.refl _ _, rfl⟩
  case' n5 =>
    go_simp
    refine hK _ ?_
    clear hK K
  apply relWalk_exg ?o6 (fun K hK => ?n6)
  case o6 =>
    intro W hC hF
    first | exact relOp_off rfl rfl rfl rfl | exact relOp_none rfl rfl rfl | skip
    all_goals
      refine relOp_on rfl rfl ?_
      obtain ⟨q0, q1, q2, q3, q4⟩ := lq5 hC.1
      go_simp
      all_goals exact ⟨Below.refl _ _, rfl⟩
  case' n6 =>
    go_simp
    refine hK _ ?_
    clear hK K
  apply relWalk_ex rfl ?o7 (fun K hK => ?n7)
  case o7 =>
    intro W hC hF
    obtain ⟨q0, q1, q2, q3, q4⟩ := lq5 hC.1
    go_simp
    all_goals exact ⟨Below.refl _ _, rfl⟩
  case' n7 =>
    go_simp
    refine hK _ ?_
    clear hK K
  apply relWalk_ex rfl ?o8 (fun K hK => ?n8)
  case o8 =>
    intro W hC hF
    obtain ⟨q0, q1, q2, q3, q4⟩ := lq5 hC.1
    go_simp
    all_goals exact ⟨Below.refl _ _, rfl⟩
  case' n8 =>
    go_simp
    refine hK _ ?_
    clear hK K
  apply relWalk_exg ?o9 (fun K hK => ?n9)
  case o9 =>
    intro W hC hF
    first | exact relOp_off rfl rfl rfl rfl | exact relOp_none rfl rfl rfl | skip
    all_goals
      refine relOp_on rfl rfl ?_
      obtain ⟨q0, q1, q2, q3, q4⟩ := lq5 hC.1
      go_simp
      all_goals exact ⟨Below.refl _ _, rfl⟩
  case' n9 =>
    go_simp
    refine hK _ ?_
    clear hK K
  apply relWalk_exg ?o10 (fun K hK => ?n10)
  case o10 =>
    intro W hC hF
    first | exact relOp_off rfl rfl rfl rfl | exact relOp_none rfl rfl rfl | skip
    all_goals
      refine relOp_on rfl rfl ?_
      obtain ⟨q0, q1, q2, q3, q4⟩ := lq5 hC.1
      go_simp
      all_goals exact ⟨Below.refl _ _, rfl⟩
  case' n10 =>
    go_simp
    refine hK _ ?_
    clear hK K
  apply relWalk_exg ?o11 (fun K hK => ?n11)
  case o11 =>
    intro W hC hF
    first | exact relOp_off rfl rfl rfl rfl | exact relOp_none rfl rfl rfl | skip
    all_goals
      refine relOp_on rfl rfl ?_
      obtain ⟨q0, q1, q2, q3, q4⟩ := lq5 hC.1
      go_simp
      all_goals exact ⟨Below.refl _ _, rfl⟩
  case' n11 =>
    go_simp
    refine hK _ ?_
    clear hK K
  apply relWalk_exg ?o12 (fun K hK => ?n12)
  case o12 =>
    intro W hC hF
    first | exact relOp_off rfl rfl rfl rfl | exact relOp_none rfl rfl rfl | skip
    all_goals
      refine relOp_on rfl rfl ?_
      obtain ⟨q0, q1, q2, q3, q4⟩ := lq5 hC.1
      go_simp
      all_goals exact ⟨Below.refl _ _, rfl⟩
  case' n12 =>
    go_simp
    refine hK _ ?_
    clear hK K
  apply relWalk_exg ?o13 (fun K hK => ?n13)
  case o13 =>
    intro W hC hF
    first | exact relOp_off rfl rfl rfl rfl | exact relOp_none rfl rfl rfl | skip
    all_goals
      refine relOp_on rfl rfl ?_
      obtain ⟨q0, q1, q2, q3, q4⟩ := lq5 hC.1
      go_simp
      all_goals exact ⟨Below.refl _ _, rfl⟩
  case' n13 =>
    go_simp
    refine hK _ ?_
    clear hK K
  apply relWalk_exg ?o14 (fun K hK => ?n14)
  case o14 =>
    intro W hC hF
    first | exact relOp_off rfl rfl rfl rfl | exact relOp_none rfl rfl rfl | skip
    all_goals
      refine relOp_on rfl rfl ?_
      obtain ⟨q0, q1, q2, q3, q4⟩ := lq5 hC.1
      go_simp
      all_goals exact ⟨Below.refl _ _, rfl⟩
  case' n14 =>
    go_simp
    refine hK _ ?_
    clear hK K
  apply relWalk_exg ?o15 (fun K hK => ?n15)
  case o15 =>
    intro W hC hF
    first | exact relOp_off rfl rfl rfl rfl | exact relOp_none rfl rfl rfl | skip
    all_goals
      refine relOp_on rfl rfl ?_
      obtain ⟨q0, q1, q2, q3, q4⟩ := lq5 hC.1
      go_simp
      all_goals exact ⟨Below.refl _ _, rfl⟩
  case' n15 =>
    go_simp
    refine hK _ ?_
    clear hK K
  apply relWalk_exg ?o16 (fun K hK => ?n16)
  case o16 =>
    intro W hC hF
    first | exact relOp_off rfl rfl rfl rfl | exact relOp_none rfl rfl rfl | skip
    all_goals
      refine relOp_on rfl rfl ?_
      obtain ⟨q0, q1, q2, q3, q4⟩ := lq5 hC.1
      go_simp
      all_goals exact ⟨Below.refl _ _, rfl⟩
  case' n16 =>
    go_simp
    refine hK _ ?_
    clear hK K
  apply relWalk_ex rfl ?o17 (fun K hK => ?n17)
  case o17 =>
    intro W hC hF
    obtain ⟨q0, q1, q2, q3, q4⟩ := lq5 hC.1
    go_simp
    all_goals exact ⟨Below.refl _ _, rfl⟩
  case' n17 =>
    go_simp
    refine hK _ ?_
    clear hK K
  apply relWalk_ex rfl ?o18 (fun K hK => ?n18)
  case o18 =>
    intro W hC hF
    obtain ⟨q0, q1, q2, q3, q4⟩ := lq5 hC.1
    go_simp
    all_goals exact ⟨Below.refl _ _, rfl⟩
  case' n18 =>
    go_simp
    refine hK _ ?_
    clear hK K
  apply relWalk_exg ?o19 (fun K hK => ?n19)
  case o19 =>
    intro W hC hF
    first | exact relOp_off rfl rfl rfl rfl | exact relOp_none rfl rfl rfl | skip
    all_goals
      refine relOp_on rfl rfl ?_
      obtain ⟨q0, q1, q2, q3, q4⟩ := lq5 hC.1
      go_simp
      all_goals exact ⟨Below.refl _ _, rfl⟩
  case' n19 =>
    go_simp
    refine hK _ ?_
    clear hK K
  apply relWalk_exg ?o20 (fun K hK => ?n20)
  case o20 =>
    intro W hC hF
    first | exact relOp_off rfl rfl rfl rfl | exact relOp_none rfl rfl rfl | skip
    all_goals
      refine relOp_on rfl rfl ?_
      obtain ⟨q0, q1, q2, q3, q4⟩ := lq5 hC.1
      go_simp
      all_goals exact ⟨Below.refl _ _, rfl⟩
  case' n20 =>
    go_simp
    refine hK _ ?_
    clear hK K
  apply relWalk_exg ?o21 (fun K hK => ?n21)
  case o21 =>
    intro W hC hF
    first | exact relOp_off rfl rfl rfl rfl | exact relOp_none rfl rfl rfl | skip
    all_goals
      refine relOp_on rfl rfl ?_
      obtain ⟨q0, q1, q2, q3, q4⟩ := lq5 hC.1
      go_simp
      all_goals exact ⟨Below.refl _ _, rfl⟩
  case' n21 =>
    go_simp
    refine hK _ ?_
    clear hK K
  apply relWalk_exg ?o22 (fun K hK => ?n22)
  case o22 =>
    intro W hC hF
    first | exact relOp_off rfl rfl rfl rfl | exact relOp_none rfl rfl rfl | skip
    all_goals
      refine relOp_on rfl rfl ?_
      obtain ⟨q0, q1, q2, q3, q4⟩ := lq5 hC.1
      go_simp
      all_goals exact ⟨Below.refl _ _, rfl⟩
  case' n22 =>
    go_simp
    refine hK _ ?_
    clear hK K
  apply relWalk_exg ?o23 (fun K hK => ?n23)
  case o23 =>
    intro W hC hF
    first | exact relOp_off rfl rfl rfl rfl | exact relOp_none rfl rfl rfl | skip
    all_goals
      refine relOp_on rfl rfl ?_
      obtain ⟨q0, q1, q2, q3, q4⟩ := lq5 hC.1
      go_simp
      all_goals exact ⟨Below.refl _ _, rfl⟩
  case' n23 =>
    go_simp
    refine hK _ ?_
    clear hK K
  apply relWalk_exg ?o24 (fun K hK => ?n24)
  case o24 =>
    intro W hC hF
    first | exact relOp_off rfl rfl rfl rfl | exact relOp_none rfl rfl rfl | skip
    all_goals
      refine relOp_on rfl rfl ?_
      obtain ⟨q0, q1, q2, q3, q4⟩ := lq5 hC.1
      go_simp
      all_goals exact (HS.out W).mono fun e w' ⟨he, hb⟩ => ⟨he, hb⟩
  case' n24 =>
    go_simp
    refine hK _ ?_
    clear hK K
  apply relWalk_exg ?o25 (fun K hK => ?n25)
  case o25 =>
    intro W hC hF
    first | exact relOp_off rfl rfl rfl rfl | exact relOp_none rfl rfl rfl | skip
    all_goals
      refine relOp_on rfl rfl ?_
      obtain ⟨q0, q1, q2, q3, q4⟩ := lq5 hC.1
      go_simp
      all_goals exact ⟨Below.refl _ _, rfl⟩
  case' n25 =>
    go_simp
    refine hK _ ?_
    clear hK K
  apply relWalk_ex rfl ?o26 (fun K hK => ?n26)
  case o26 =>
    intro W hC hF
    obtain ⟨q0, q1, q2, q3, q4⟩ := lq5 hC.1
    go_simp
    all_goals exact ⟨Below.refl _ _, rfl⟩
  case' n26 =>
    go_simp
    refine hK _ ?_
    clear hK K
  apply relWalk_ex rfl ?o27 (fun K hK => ?n27)
  case o27 =>
    intro W hC hF
    obtain ⟨q0, q1, q2, q3, q4⟩ := lq5 hC.1
    go_simp
    all_goals exact ⟨Below.refl _ _, rfl⟩
  case' n27 =>
    go_simp
    refine hK _ ?_
    clear hK K
  apply relWalk_exg ?o28 (fun K hK => ?n28)
  case o28 =>
    intro W hC hF
    first | exact relOp_off rfl rfl rfl rfl | exact relOp_none rfl rfl rfl | skip
    all_goals
      refine relOp_on rfl rfl ?_
      obtain ⟨q0, q1, q2, q3, q4⟩ := lq5 hC.1
      go_simp
      all_goals exact ⟨Below.refl _ _, rfl⟩
  case' n28 =>
    go_simp
    refine hK _ ?_
    clear hK K
  apply relWalk_exg ?o29 (fun K hK => ?n29)
  case o29 =>
    intro W hC hF
    first | exact relOp_off rfl rfl rfl rfl | exact relOp_none rfl rfl rfl | skip
    all_goals
      refine relOp_on rfl rfl ?_
      obtain ⟨q0, q1, q2, q3, q4⟩ := lq5 hC.1
      go_simp
      all_goals exact ⟨Below.refl _ _, rfl⟩
  case' n29 =>
    go_simp
    refine hK _ ?_
    clear hK K
  apply relWalk_exg ?o30 (fun K hK => ?n30)
  case o30 =>
    intro W hC hF
    first | exact relOp_off rfl rfl rfl rfl | exact relOp_none rfl rfl rfl | skip
    all_goals
      refine relOp_on rfl rfl ?_
      obtain ⟨q0, q1, q2, q3, q4⟩ := lq5 hC.1
      go_simp
      all_goals exact ⟨Below.refl _ _, rfl⟩
  case' n30 =>
    go_simp
    refine hK _ ?_
    clear hK K
  apply relWalk_exg ?o31 (fun K hK => ?n31)
  case o31 =>
    intro W hC hF
    first | exact relOp_off rfl rfl rfl rfl | exact relOp_none rfl rfl rfl | skip
    all_goals
      refine relOp_on rfl rfl ?_
      obtain ⟨q0, q1, q2, q3, q4⟩ := lq5 hC.1
      go_simp
      all_goals exact ⟨Below.refl _ _, rfl⟩
  case' n31 =>
    go_simp
    refine hK _ ?_
    clear hK K
  apply relWalk_exg ?o32 (fun K hK => ?n32)
  case o32 =>
    intro W hC hF
    first | exact relOp_off rfl rfl rfl rfl | exact relOp_none rfl rfl rfl | skip
    all_goals
      refine relOp_on rfl rfl ?_
      obtain ⟨q0, q1, q2, q3, q4⟩ := lq5 hC.1
      go_simp
      all_goals exact ⟨Below.refl _ _, rfl⟩
  case' n32 =>
    go_simp
    refine hK _ ?_
    clear hK K
  apply relWalk_exg ?o33 (fun K hK => ?n33)
  case o33 =>
    intro W hC hF
    first | exact relOp_off rfl rfl rfl rfl | exact relOp_none rfl rfl rfl | skip
    all_goals
      refine relOp_on rfl rfl ?_
      obtain ⟨q0, q1, q2, q3, q4⟩ := lq5 hC.1
      go_simp
      all_goals exact ⟨Below.refl _ _, rfl⟩
  case' n33 =>
    go_simp
    refine hK _ ?_
    clear hK K
  apply relWalk_exg ?o34 (fun K hK => ?n34)
  case o34 =>
    intro W hC hF
    first | exact relOp_off rfl rfl rfl rfl | exact relOp_none rfl rfl rfl | skip
    all_goals
      refine relOp_on rfl rfl ?_
      obtain ⟨q0, q1, q2, q3, q4⟩ := lq5 hC.1
      go_simp
      all_goals exact ⟨Below.refl _ _, rfl⟩
  case' n34 =>
    go_simp
    refine hK _ ?_
    clear hK K
  apply relWalk_exg ?o35 (fun K hK => ?n35)
  case o35 =>
    intro W hC hF
    first | exact relOp_off rfl rfl rfl rfl | exact relOp_none rfl rfl rfl | skip
    all_goals
      refine relOp_on rfl rfl ?_
      obtain ⟨q0, q1, q2, q3, q4⟩ := lq5 hC.1
      go_simp
      all_goals exact ⟨Below.refl _ _, rfl⟩
  case' n35 =>
    go_simp
    refine hK _ ?_
    clear hK K
  apply relWalk_ex rfl ?o36 (fun K hK => ?n36)
  case o36 =>
    intro W hC hF
    obtain ⟨q0, q1, q2, q3, q4⟩ := lq5 hC.1
    go_simp
    all_goals exact ⟨Below.refl _ _, rfl⟩
  case' n36 =>
    go_simp
    refine hK _ ?_
    clear hK K
  apply relWalk_ex rfl ?o37 (fun K hK => ?n37)
  case o37 =>
    intro W hC hF
    obtain ⟨q0, q1, q2, q3, q4⟩ := lq5 hC.1
    go_simp
    all_goals exact ⟨Below.refl _ _, rfl⟩
  case' n37 =>
    go_simp
    refine hK _ ?_
    clear hK K
  apply relWalk_exg ?o38 (fun K hK => ?n38)
  case o38 =>
    intro W hC hF
    first | exact relOp_off rfl rfl rfl rfl | exact relOp_none rfl rfl rfl | skip
    all_goals
      refine relOp_on rfl rfl ?_
      obtain ⟨q0, q1, q2, q3, q4⟩ := lq5 hC.1
      go_simp
      all_goals exact ⟨Below.refl _ _, rfl⟩
  case' n38 =>
    go_simp
    refine hK _ ?_
    clear hK K
  apply relWalk_exg ?o39 (fun K hK => ?n39)
  case o39 =>
    intro W hC hF
    first | exact relOp_off rfl rfl rfl rfl | exact relOp_none rfl rfl rfl | skip
    all_goals
      refine relOp_on rfl rfl ?_
      obtain ⟨q0, q1, q2, q3, q4⟩ := lq5 hC.1
      go_simp
      all_goals exact ⟨Below.refl _ _, rfl⟩
  case' n39 =>
    go_simp
    refine hK _ ?_
    clear hK K
  apply relWalk_exg ?o40 (fun K hK => ?n40)
  case o40 =>
    intro W hC hF
    first | exact relOp_off rfl rfl rfl rfl | exact relOp_none rfl rfl rfl | skip
    all_goals
      refine relOp_on rfl rfl ?_
      obtain ⟨q0, q1, q2, q3, q4⟩ := lq5 hC.1
      go_simp
      all_goals exact (HF.out W).mono fun e w' ⟨he, hb⟩ => ⟨he, hb⟩
  case' n40 =>
    go_simp
    refine hK _ ?_
    clear hK K
  apply relWalk_ex rfl ?o41 (fun K hK => ?n41)
  case o41 =>
    intro W hC hF
    obtain ⟨q0, q1, q2, q3, q4⟩ := lq5 hC.1
    go_simp
    all_goals exact ⟨Below.refl _ _, rfl⟩
  case' n41 =>
    go_simp
    refine hK _ ?_
    clear hK K
  apply relWalk_end
  intro W hC hF hU
  clear HB1
  have HB2 := Lib.hid hC
  clear hC hU hF
  go_wp2_with fail
  refine (must_yes _ _).mono ?_
  rintro e w3 ⟨rfl, rfl⟩
  have q1 : W.cell? ⟨w.heap.size, 1, none⟩ = some (.int .i64 kd) := HB2.out.1.cell_ rfl
  have q2 : W.cell? ⟨w.heap.size, 2, none⟩ = some (.int .i64 sv) := HB2.out.1.cell_ rfl
  go_wp2_with fail
  refine (HA2.out _ HB2.out.2).mono ?_
  rintro e w4 ⟨rfl, hb4⟩
  exact ⟨rfl, rfl, HB2.out.2.trans (hb4.mono HB2.out.2.size)⟩

set_option maxRecDepth 100000 in
set_option maxHeartbeats 1000000 in
theorem line_ok2 (off kd sv : Int) (sn sf : ByteArray) (is : Bool) (y m d1 d2 d3 h1 h2 : Int) (w : World) (ao : ByteArray) (hk : decide (0 ≤ kd) = true) (hk2 : decide (kd ≤ 2) = true) (ha : (kd == 1) = false) (hsv : (sv == 0) = true) (hc : (kd == 2) = true) (hl4 : sn.size ≤ 1000) (HS : Hid (∀ W, Calls Tryz.prog 65 #[.string sn] W fun e w' => e = .returned (.bool true) ∧ Below W.heap.size W w')) (HF : Hid (∀ W, Calls Tryz.prog 49 #[.string sf] W fun e w' => e = .returned (.bool true) ∧ Below W.heap.size W w')) (hl0 : ao.size ≤ 1000) (hl1 : sf.size ≤ 1000) (te : ByteArray) (hl2 : te.size ≤ 1000) (HE : Hid (∀ W, Below w.heap.size w W → Calls Tryz.prog 66 #[.agg #[.bool is, .int .i64 y, .int .i64 m, .int .i64 d1, .int .i64 d2, .int .i64 d3, .int .i64 h1, .int .i64 h2]] W fun e w' => e = .returned (.string te) ∧ Below W.heap.size W w'))
    (HA : Hid (∀ W, Below w.heap.size w W → Calls Tryz.prog 64 #[.int .i64 off] W fun e w' => e = .returned (.string ao) ∧ Below W.heap.size W w')) :
    Calls Tryz.prog 27 #[.agg #[.int .i64 off, .int .i64 kd, .int .i64 sv, .string sn, .string sf, .bool is, .int .i64 y, .int .i64 m, .int .i64 d1, .int .i64 d2, .int .i64 d3, .int .i64 h1, .int .i64 h2]] w fun e w' => e = .returned (.string ⟨(ao.data.toList ++ ([32] ++ (sn.data.toList ++ ([32] ++ (sf.data.toList ++ te.data.toList))))).toArray⟩) ∧ Below w.heap.size w w' := by
  have hB0 := (Below.refl w.heap.size w).alloc (Nat.le_refl _) (.cells #[.int .i64 off, .int .i64 kd, .int .i64 sv, .string sn, .string sf, .bool is, .int .i64 y, .int .i64 m, .int .i64 d1, .int .i64 d2, .int .i64 d3, .int .i64 h1, .int .i64 h2] 31)
  have HB0 := Lib.hid (And.intro (Blk.new' w 31 #[.int .i64 off, .int .i64 kd, .int .i64 sv, .string sn, .string sf, .bool is, .int .i64 y, .int .i64 m, .int .i64 d1, .int .i64 d2, .int .i64 d3, .int .i64 h1, .int .i64 h2] rfl) hB0)
  clear hB0
  go_enter Tryz.func27, Tryz.ntmps27
  go_wp2_with fail
  refine (HA.out _ HB0.out.2).mono ?_
  rintro e w1 ⟨rfl, hb1⟩
  have HB1 := Lib.hid (And.intro (HB0.out.1.below hb1 HB0.out.1.lt) (HB0.out.2.trans (hb1.mono HB0.out.2.size)))
  clear hb1 HB0 HA
  go_wp2_with fail
  refine wp_region_rels 42 [[], [], [], [], [], [], [], [], [], [], [], [], [], [], [], [], [], [], [], [], [], [], [], [], [], [], [], [], [], [], [], [], [], [], [], [], [], [], [], [], [], []] [Form.val, Form.val, Form.val, Form.val, Form.val, Form.val, Form.val, Form.val, Form.val, Form.val, Form.val, Form.val, Form.val, Form.val, Form.val, Form.val, Form.val, Form.val, Form.val, Form.val, Form.val, Form.val, Form.val, Form.val, Form.val, Form.val, Form.val, Form.val, Form.val, Form.val, Form.val, Form.val, Form.val, Form.val, Form.val, Form.val, Form.val, Form.val, Form.val, Form.val, Form.val, Form.val] (fun W => Blk W w.heap.size 31 #[.int .i64 off, .int .i64 kd, .int .i64 sv, .string sn, .string sf, .bool is, .int .i64 y, .int .i64 m, .int .i64 d1, .int .i64 d2, .int .i64 d3, .int .i64 h1, .int .i64 h2] ∧ Below w.heap.size w W) (by kernel_rfl) (by kernel_rfl) rfl rfl (⟨HB1.out.1, HB1.out.2.drew⟩) (fun W W' h hb => ⟨h.1.below hb h.1.lt, h.2.trans (hb.mono h.2.size)⟩) trivial ?_
  repeat (first | apply exSpec_rel | apply exSpec_new | apply exSpec_val)
  apply relWalk_ex rfl ?o0 (fun K hK => ?n0)
  case o0 =>
    intro W hC hF
    obtain ⟨q0, q1, q2, q3, q4⟩ := lq5 hC.1
    go_simp
    all_goals exact ⟨Below.refl _ _, rfl⟩
  case' n0 =>
    go_simp
    refine hK _ ?_
    clear hK K
  apply relWalk_ex rfl ?o1 (fun K hK => ?n1)
  case o1 =>
    intro W hC hF
    obtain ⟨q0, q1, q2, q3, q4⟩ := lq5 hC.1
    go_simp
    all_goals exact ⟨Below.refl _ _, rfl⟩
  case' n1 =>
    go_simp
    refine hK _ ?_
    clear hK K
  apply relWalk_ex rfl ?o2 (fun K hK => ?n2)
  case o2 =>
    intro W hC hF
    obtain ⟨q0, q1, q2, q3, q4⟩ := lq5 hC.1
    go_simp
    all_goals exact ⟨Below.refl _ _, rfl⟩
  case' n2 =>
    go_simp
    refine hK _ ?_
    clear hK K
  apply relWalk_ex rfl ?o3 (fun K hK => ?n3)
  case o3 =>
    intro W hC hF
    obtain ⟨q0, q1, q2, q3, q4⟩ := lq5 hC.1
    go_simp
    all_goals exact ⟨Below.refl _ _, rfl⟩
  case' n3 =>
    go_simp
    refine hK _ ?_
    clear hK K
  apply relWalk_exg ?o4 (fun K hK => ?n4)
  case o4 =>
    intro W hC hF
    first | exact relOp_off rfl rfl rfl rfl | exact relOp_none rfl rfl rfl | skip
    all_goals
      refine relOp_on rfl rfl ?_
      obtain ⟨q0, q1, q2, q3, q4⟩ := lq5 hC.1
      go_simp
      all_goals exact ⟨Below.refl _ _, rfl⟩
  case' n4 =>
    go_simp
    refine hK _ ?_
    clear hK K
  apply relWalk_exg ?o5 (fun K hK => ?n5)
  case o5 =>
    intro W hC hF
    first | exact relOp_off rfl rfl rfl rfl | exact relOp_none rfl rfl rfl | skip
    all_goals
      refine relOp_on rfl rfl ?_
      obtain ⟨q0, q1, q2, q3, q4⟩ := lq5 hC.1
      go_simp
      all_goals exact ⟨Below.refl _ _, rfl⟩
  case' n5 =>
    go_simp
    refine hK _ ?_
    clear hK K
  apply relWalk_exg ?o6 (fun K hK => ?n6)
  case o6 =>
    intro W hC hF
    first | exact relOp_off rfl rfl rfl rfl | exact relOp_none rfl rfl rfl | skip
    all_goals
      refine relOp_on rfl rfl ?_
      obtain ⟨q0, q1, q2, q3, q4⟩ := lq5 hC.1
      go_simp
      all_goals exact ⟨Below.refl _ _, rfl⟩
  case' n6 =>
    go_simp
    refine hK _ ?_
    clear hK K
  apply relWalk_ex rfl ?o7 (fun K hK => ?n7)
  case o7 =>
    intro W hC hF
    obtain ⟨q0, q1, q2, q3, q4⟩ := lq5 hC.1
    go_simp
    all_goals exact ⟨Below.refl _ _, rfl⟩
  case' n7 =>
    go_simp
    refine hK _ ?_
    clear hK K
  apply relWalk_ex rfl ?o8 (fun K hK => ?n8)
  case o8 =>
    intro W hC hF
    obtain ⟨q0, q1, q2, q3, q4⟩ := lq5 hC.1
    go_simp
    all_goals exact ⟨Below.refl _ _, rfl⟩
  case' n8 =>
    go_simp
    refine hK _ ?_
    clear hK K
  apply relWalk_exg ?o9 (fun K hK => ?n9)
  case o9 =>
    intro W hC hF
    first | exact relOp_off rfl rfl rfl rfl | exact relOp_none rfl rfl rfl | skip
    all_goals
      refine relOp_on rfl rfl ?_
      obtain ⟨q0, q1, q2, q3, q4⟩ := lq5 hC.1
      go_simp
      all_goals exact ⟨Below.refl _ _, rfl⟩
  case' n9 =>
    go_simp
    refine hK _ ?_
    clear hK K
  apply relWalk_exg ?o10 (fun K hK => ?n10)
  case o10 =>
    intro W hC hF
    first | exact relOp_off rfl rfl rfl rfl | exact relOp_none rfl rfl rfl | skip
    all_goals
      refine relOp_on rfl rfl ?_
      obtain ⟨q0, q1, q2, q3, q4⟩ := lq5 hC.1
      go_simp
      all_goals exact ⟨Below.refl _ _, rfl⟩
  case' n10 =>
    go_simp
    refine hK _ ?_
    clear hK K
  apply relWalk_exg ?o11 (fun K hK => ?n11)
  case o11 =>
    intro W hC hF
    first | exact relOp_off rfl rfl rfl rfl | exact relOp_none rfl rfl rfl | skip
    all_goals
      refine relOp_on rfl rfl ?_
      obtain ⟨q0, q1, q2, q3, q4⟩ := lq5 hC.1
      go_simp
      all_goals exact ⟨Below.refl _ _, rfl⟩
  case' n11 =>
    go_simp
    refine hK _ ?_
    clear hK K
  apply relWalk_exg ?o12 (fun K hK => ?n12)
  case o12 =>
    intro W hC hF
    first | exact relOp_off rfl rfl rfl rfl | exact relOp_none rfl rfl rfl | skip
    all_goals
      refine relOp_on rfl rfl ?_
      obtain ⟨q0, q1, q2, q3, q4⟩ := lq5 hC.1
      go_simp
      all_goals exact ⟨Below.refl _ _, rfl⟩
  case' n12 =>
    go_simp
    refine hK _ ?_
    clear hK K
  apply relWalk_exg ?o13 (fun K hK => ?n13)
  case o13 =>
    intro W hC hF
    first | exact relOp_off rfl rfl rfl rfl | exact relOp_none rfl rfl rfl | skip
    all_goals
      refine relOp_on rfl rfl ?_
      obtain ⟨q0, q1, q2, q3, q4⟩ := lq5 hC.1
      go_simp
      all_goals exact ⟨Below.refl _ _, rfl⟩
  case' n13 =>
    go_simp
    refine hK _ ?_
    clear hK K
  apply relWalk_exg ?o14 (fun K hK => ?n14)
  case o14 =>
    intro W hC hF
    first | exact relOp_off rfl rfl rfl rfl | exact relOp_none rfl rfl rfl | skip
    all_goals
      refine relOp_on rfl rfl ?_
      obtain ⟨q0, q1, q2, q3, q4⟩ := lq5 hC.1
      go_simp
      all_goals exact ⟨Below.refl _ _, rfl⟩
  case' n14 =>
    go_simp
    refine hK _ ?_
    clear hK K
  apply relWalk_exg ?o15 (fun K hK => ?n15)
  case o15 =>
    intro W hC hF
    first | exact relOp_off rfl rfl rfl rfl | exact relOp_none rfl rfl rfl | skip
    all_goals
      refine relOp_on rfl rfl ?_
      obtain ⟨q0, q1, q2, q3, q4⟩ := lq5 hC.1
      go_simp
      all_goals exact ⟨Below.refl _ _, rfl⟩
  case' n15 =>
    go_simp
    refine hK _ ?_
    clear hK K
  apply relWalk_exg ?o16 (fun K hK => ?n16)
  case o16 =>
    intro W hC hF
    first | exact relOp_off rfl rfl rfl rfl | exact relOp_none rfl rfl rfl | skip
    all_goals
      refine relOp_on rfl rfl ?_
      obtain ⟨q0, q1, q2, q3, q4⟩ := lq5 hC.1
      go_simp
      all_goals exact ⟨Below.refl _ _, rfl⟩
  case' n16 =>
    go_simp
    refine hK _ ?_
    clear hK K
  apply relWalk_ex rfl ?o17 (fun K hK => ?n17)
  case o17 =>
    intro W hC hF
    obtain ⟨q0, q1, q2, q3, q4⟩ := lq5 hC.1
    go_simp
    all_goals exact ⟨Below.refl _ _, rfl⟩
  case' n17 =>
    go_simp
    refine hK _ ?_
    clear hK K
  apply relWalk_ex rfl ?o18 (fun K hK => ?n18)
  case o18 =>
    intro W hC hF
    obtain ⟨q0, q1, q2, q3, q4⟩ := lq5 hC.1
    go_simp
    all_goals exact ⟨Below.refl _ _, rfl⟩
  case' n18 =>
    go_simp
    refine hK _ ?_
    clear hK K
  apply relWalk_exg ?o19 (fun K hK => ?n19)
  case o19 =>
    intro W hC hF
    first | exact relOp_off rfl rfl rfl rfl | exact relOp_none rfl rfl rfl | skip
    all_goals
      refine relOp_on rfl rfl ?_
      obtain ⟨q0, q1, q2, q3, q4⟩ := lq5 hC.1
      go_simp
      all_goals exact ⟨Below.refl _ _, rfl⟩
  case' n19 =>
    go_simp
    refine hK _ ?_
    clear hK K
  apply relWalk_exg ?o20 (fun K hK => ?n20)
  case o20 =>
    intro W hC hF
    first | exact relOp_off rfl rfl rfl rfl | exact relOp_none rfl rfl rfl | skip
    all_goals
      refine relOp_on rfl rfl ?_
      obtain ⟨q0, q1, q2, q3, q4⟩ := lq5 hC.1
      go_simp
      all_goals exact ⟨Below.refl _ _, rfl⟩
  case' n20 =>
    go_simp
    refine hK _ ?_
    clear hK K
  apply relWalk_exg ?o21 (fun K hK => ?n21)
  case o21 =>
    intro W hC hF
    first | exact relOp_off rfl rfl rfl rfl | exact relOp_none rfl rfl rfl | skip
    all_goals
      refine relOp_on rfl rfl ?_
      obtain ⟨q0, q1, q2, q3, q4⟩ := lq5 hC.1
      go_simp
      all_goals exact ⟨Below.refl _ _, rfl⟩
  case' n21 =>
    go_simp
    refine hK _ ?_
    clear hK K
  apply relWalk_exg ?o22 (fun K hK => ?n22)
  case o22 =>
    intro W hC hF
    first | exact relOp_off rfl rfl rfl rfl | exact relOp_none rfl rfl rfl | skip
    all_goals
      refine relOp_on rfl rfl ?_
      obtain ⟨q0, q1, q2, q3, q4⟩ := lq5 hC.1
      go_simp
      all_goals exact ⟨Below.refl _ _, rfl⟩
  case' n22 =>
    go_simp
    refine hK _ ?_
    clear hK K
  apply relWalk_exg ?o23 (fun K hK => ?n23)
  case o23 =>
    intro W hC hF
    first | exact relOp_off rfl rfl rfl rfl | exact relOp_none rfl rfl rfl | skip
    all_goals
      refine relOp_on rfl rfl ?_
      obtain ⟨q0, q1, q2, q3, q4⟩ := lq5 hC.1
      go_simp
      all_goals exact ⟨Below.refl _ _, rfl⟩
  case' n23 =>
    go_simp
    refine hK _ ?_
    clear hK K
  apply relWalk_exg ?o24 (fun K hK => ?n24)
  case o24 =>
    intro W hC hF
    first | exact relOp_off rfl rfl rfl rfl | exact relOp_none rfl rfl rfl | skip
    all_goals
      refine relOp_on rfl rfl ?_
      obtain ⟨q0, q1, q2, q3, q4⟩ := lq5 hC.1
      go_simp
      all_goals exact (HS.out W).mono fun e w' ⟨he, hb⟩ => ⟨he, hb⟩
  case' n24 =>
    go_simp
    refine hK _ ?_
    clear hK K
  apply relWalk_exg ?o25 (fun K hK => ?n25)
  case o25 =>
    intro W hC hF
    first | exact relOp_off rfl rfl rfl rfl | exact relOp_none rfl rfl rfl | skip
    all_goals
      refine relOp_on rfl rfl ?_
      obtain ⟨q0, q1, q2, q3, q4⟩ := lq5 hC.1
      go_simp
      all_goals exact ⟨Below.refl _ _, rfl⟩
  case' n25 =>
    go_simp
    refine hK _ ?_
    clear hK K
  apply relWalk_ex rfl ?o26 (fun K hK => ?n26)
  case o26 =>
    intro W hC hF
    obtain ⟨q0, q1, q2, q3, q4⟩ := lq5 hC.1
    go_simp
    all_goals exact ⟨Below.refl _ _, rfl⟩
  case' n26 =>
    go_simp
    refine hK _ ?_
    clear hK K
  apply relWalk_ex rfl ?o27 (fun K hK => ?n27)
  case o27 =>
    intro W hC hF
    obtain ⟨q0, q1, q2, q3, q4⟩ := lq5 hC.1
    go_simp
    all_goals exact ⟨Below.refl _ _, rfl⟩
  case' n27 =>
    go_simp
    refine hK _ ?_
    clear hK K
  apply relWalk_exg ?o28 (fun K hK => ?n28)
  case o28 =>
    intro W hC hF
    first | exact relOp_off rfl rfl rfl rfl | exact relOp_none rfl rfl rfl | skip
    all_goals
      refine relOp_on rfl rfl ?_
      obtain ⟨q0, q1, q2, q3, q4⟩ := lq5 hC.1
      go_simp
      all_goals exact ⟨Below.refl _ _, rfl⟩
  case' n28 =>
    go_simp
    refine hK _ ?_
    clear hK K
  apply relWalk_exg ?o29 (fun K hK => ?n29)
  case o29 =>
    intro W hC hF
    first | exact relOp_off rfl rfl rfl rfl | exact relOp_none rfl rfl rfl | skip
    all_goals
      refine relOp_on rfl rfl ?_
      obtain ⟨q0, q1, q2, q3, q4⟩ := lq5 hC.1
      go_simp
      all_goals exact ⟨Below.refl _ _, rfl⟩
  case' n29 =>
    go_simp
    refine hK _ ?_
    clear hK K
  apply relWalk_exg ?o30 (fun K hK => ?n30)
  case o30 =>
    intro W hC hF
    first | exact relOp_off rfl rfl rfl rfl | exact relOp_none rfl rfl rfl | skip
    all_goals
      refine relOp_on rfl rfl ?_
      obtain ⟨q0, q1, q2, q3, q4⟩ := lq5 hC.1
      go_simp
      all_goals exact ⟨Below.refl _ _, rfl⟩
  case' n30 =>
    go_simp
    refine hK _ ?_
    clear hK K
  apply relWalk_exg ?o31 (fun K hK => ?n31)
  case o31 =>
    intro W hC hF
    first | exact relOp_off rfl rfl rfl rfl | exact relOp_none rfl rfl rfl | skip
    all_goals
      refine relOp_on rfl rfl ?_
      obtain ⟨q0, q1, q2, q3, q4⟩ := lq5 hC.1
      go_simp
      all_goals exact ⟨Below.refl _ _, rfl⟩
  case' n31 =>
    go_simp
    refine hK _ ?_
    clear hK K
  apply relWalk_exg ?o32 (fun K hK => ?n32)
  case o32 =>
    intro W hC hF
    first | exact relOp_off rfl rfl rfl rfl | exact relOp_none rfl rfl rfl | skip
    all_goals
      refine relOp_on rfl rfl ?_
      obtain ⟨q0, q1, q2, q3, q4⟩ := lq5 hC.1
      go_simp
      all_goals exact ⟨Below.refl _ _, rfl⟩
  case' n32 =>
    go_simp
    refine hK _ ?_
    clear hK K
  apply relWalk_exg ?o33 (fun K hK => ?n33)
  case o33 =>
    intro W hC hF
    first | exact relOp_off rfl rfl rfl rfl | exact relOp_none rfl rfl rfl | skip
    all_goals
      refine relOp_on rfl rfl ?_
      obtain ⟨q0, q1, q2, q3, q4⟩ := lq5 hC.1
      go_simp
      all_goals exact ⟨Below.refl _ _, rfl⟩
  case' n33 =>
    go_simp
    refine hK _ ?_
    clear hK K
  apply relWalk_exg ?o34 (fun K hK => ?n34)
  case o34 =>
    intro W hC hF
    first | exact relOp_off rfl rfl rfl rfl | exact relOp_none rfl rfl rfl | skip
    all_goals
      refine relOp_on rfl rfl ?_
      obtain ⟨q0, q1, q2, q3, q4⟩ := lq5 hC.1
      go_simp
      all_goals exact ⟨Below.refl _ _, rfl⟩
  case' n34 =>
    go_simp
    refine hK _ ?_
    clear hK K
  apply relWalk_exg ?o35 (fun K hK => ?n35)
  case o35 =>
    intro W hC hF
    first | exact relOp_off rfl rfl rfl rfl | exact relOp_none rfl rfl rfl | skip
    all_goals
      refine relOp_on rfl rfl ?_
      obtain ⟨q0, q1, q2, q3, q4⟩ := lq5 hC.1
      go_simp
      all_goals exact ⟨Below.refl _ _, rfl⟩
  case' n35 =>
    go_simp
    refine hK _ ?_
    clear hK K
  apply relWalk_ex rfl ?o36 (fun K hK => ?n36)
  case o36 =>
    intro W hC hF
    obtain ⟨q0, q1, q2, q3, q4⟩ := lq5 hC.1
    go_simp
    all_goals exact ⟨Below.refl _ _, rfl⟩
  case' n36 =>
    go_simp
    refine hK _ ?_
    clear hK K
  apply relWalk_ex rfl ?o37 (fun K hK => ?n37)
  case o37 =>
    intro W hC hF
    obtain ⟨q0, q1, q2, q3, q4⟩ := lq5 hC.1
    go_simp
    all_goals exact ⟨Below.refl _ _, rfl⟩
  case' n37 =>
    go_simp
    refine hK _ ?_
    clear hK K
  apply relWalk_exg ?o38 (fun K hK => ?n38)
  case o38 =>
    intro W hC hF
    first | exact relOp_off rfl rfl rfl rfl | exact relOp_none rfl rfl rfl | skip
    all_goals
      refine relOp_on rfl rfl ?_
      obtain ⟨q0, q1, q2, q3, q4⟩ := lq5 hC.1
      go_simp
      all_goals exact ⟨Below.refl _ _, rfl⟩
  case' n38 =>
    go_simp
    refine hK _ ?_
    clear hK K
  apply relWalk_exg ?o39 (fun K hK => ?n39)
  case o39 =>
    intro W hC hF
    first | exact relOp_off rfl rfl rfl rfl | exact relOp_none rfl rfl rfl | skip
    all_goals
      refine relOp_on rfl rfl ?_
      obtain ⟨q0, q1, q2, q3, q4⟩ := lq5 hC.1
      go_simp
      all_goals exact ⟨Below.refl _ _, rfl⟩
  case' n39 =>
    go_simp
    refine hK _ ?_
    clear hK K
  apply relWalk_exg ?o40 (fun K hK => ?n40)
  case o40 =>
    intro W hC hF
    first | exact relOp_off rfl rfl rfl rfl | exact relOp_none rfl rfl rfl | skip
    all_goals
      refine relOp_on rfl rfl ?_
      obtain ⟨q0, q1, q2, q3, q4⟩ := lq5 hC.1
      go_simp
      all_goals exact (HF.out W).mono fun e w' ⟨he, hb⟩ => ⟨he, hb⟩
  case' n40 =>
    go_simp
    refine hK _ ?_
    clear hK K
  apply relWalk_ex rfl ?o41 (fun K hK => ?n41)
  case o41 =>
    intro W hC hF
    obtain ⟨q0, q1, q2, q3, q4⟩ := lq5 hC.1
    go_simp
    all_goals exact ⟨Below.refl _ _, rfl⟩
  case' n41 =>
    go_simp
    refine hK _ ?_
    clear hK K
  apply relWalk_end
  intro W hC hF hU
  clear HB1
  have HB2 := Lib.hid hC
  clear hC hU hF
  go_wp2_with fail
  refine (must_yes _ _).mono ?_
  rintro e w3 ⟨rfl, rfl⟩
  have q1 : W.cell? ⟨w.heap.size, 1, none⟩ = some (.int .i64 kd) := HB2.out.1.cell_ rfl
  have q3 : W.cell? ⟨w.heap.size, 3, none⟩ = some (.string sn) := HB2.out.1.cell_ rfl
  go_wp2_with fail
  refine wp_region_rels 12 [[], [], [], [], [], [], [], [], [], [], [], []] [Form.val, Form.val, Form.val, Form.val, Form.val, Form.val, Form.val, Form.val, Form.val, Form.val, Form.val, Form.val] (fun W => Blk W w.heap.size 31 #[.int .i64 off, .int .i64 kd, .int .i64 sv, .string sn, .string sf, .bool is, .int .i64 y, .int .i64 m, .int .i64 d1, .int .i64 d2, .int .i64 d3, .int .i64 h1, .int .i64 h2] ∧ Below w.heap.size w W) (by kernel_rfl) (by kernel_rfl) rfl rfl (⟨HB2.out.1, HB2.out.2.drew⟩) (fun W W' h hb => ⟨h.1.below hb h.1.lt, h.2.trans (hb.mono h.2.size)⟩) trivial ?_
  repeat (first | apply exSpec_rel | apply exSpec_new | apply exSpec_val)
  apply relWalk_ex rfl ?ox0 (fun K hK => ?nx0)
  case ox0 =>
    intro W hC hF
    obtain ⟨q0, q1, q2, q3, q4, q5, q6, q7, q8, q9, q10, q11, q12⟩ := lq13 hC.1
    go_simp
    all_goals exact ⟨Below.refl _ _, rfl⟩
  case' nx0 =>
    go_simp
    refine hK _ ?_
    clear hK K
  apply relWalk_ex rfl ?ox1 (fun K hK => ?nx1)
  case ox1 =>
    intro W hC hF
    obtain ⟨q0, q1, q2, q3, q4, q5, q6, q7, q8, q9, q10, q11, q12⟩ := lq13 hC.1
    go_simp
    all_goals (first | exact ⟨Below.refl _ _, rfl⟩ | (rw [if_neg (by omega)]; exact ⟨Below.refl _ _, rfl⟩))
  case' nx1 =>
    go_simp
    refine hK _ ?_
    clear hK K
  apply relWalk_ex rfl ?ox2 (fun K hK => ?nx2)
  case ox2 =>
    intro W hC hF
    obtain ⟨q0, q1, q2, q3, q4, q5, q6, q7, q8, q9, q10, q11, q12⟩ := lq13 hC.1
    go_simp
    all_goals exact ⟨Below.refl _ _, rfl⟩
  case' nx2 =>
    go_simp
    refine hK _ ?_
    clear hK K
  apply relWalk_ex rfl ?ox3 (fun K hK => ?nx3)
  case ox3 =>
    intro W hC hF
    obtain ⟨q0, q1, q2, q3, q4, q5, q6, q7, q8, q9, q10, q11, q12⟩ := lq13 hC.1
    go_simp
    all_goals (first | exact ⟨Below.refl _ _, rfl⟩ | (rw [if_neg (by omega)]; exact ⟨Below.refl _ _, rfl⟩))
  case' nx3 =>
    go_simp
    refine hK _ ?_
    clear hK K
  apply relWalk_ex rfl ?ox4 (fun K hK => ?nx4)
  case ox4 =>
    intro W hC hF
    obtain ⟨q0, q1, q2, q3, q4, q5, q6, q7, q8, q9, q10, q11, q12⟩ := lq13 hC.1
    go_simp
    all_goals (first | exact ⟨Below.refl _ _, rfl⟩ | (rw [if_neg (by omega)]; exact ⟨Below.refl _ _, rfl⟩))
  case' nx4 =>
    go_simp
    refine hK _ ?_
    clear hK K
  apply relWalk_ex rfl ?ox5 (fun K hK => ?nx5)
  case ox5 =>
    intro W hC hF
    obtain ⟨q0, q1, q2, q3, q4, q5, q6, q7, q8, q9, q10, q11, q12⟩ := lq13 hC.1
    go_simp
    all_goals exact ⟨Below.refl _ _, rfl⟩
  case' nx5 =>
    go_simp
    refine hK _ ?_
    clear hK K
  apply relWalk_ex rfl ?ox6 (fun K hK => ?nx6)
  case ox6 =>
    intro W hC hF
    obtain ⟨q0, q1, q2, q3, q4, q5, q6, q7, q8, q9, q10, q11, q12⟩ := lq13 hC.1
    go_simp
    all_goals exact ⟨Below.refl _ _, rfl⟩
  case' nx6 =>
    go_simp
    refine hK _ ?_
    clear hK K
  apply relWalk_ex rfl ?ox7 (fun K hK => ?nx7)
  case ox7 =>
    intro W hC hF
    obtain ⟨q0, q1, q2, q3, q4, q5, q6, q7, q8, q9, q10, q11, q12⟩ := lq13 hC.1
    go_simp
    all_goals (first | exact ⟨Below.refl _ _, rfl⟩ | (rw [if_neg (by omega)]; exact ⟨Below.refl _ _, rfl⟩))
  case' nx7 =>
    go_simp
    refine hK _ ?_
    clear hK K
  apply relWalk_ex rfl ?ox8 (fun K hK => ?nx8)
  case ox8 =>
    intro W hC hF
    obtain ⟨q0, q1, q2, q3, q4, q5, q6, q7, q8, q9, q10, q11, q12⟩ := lq13 hC.1
    go_simp
    all_goals exact ⟨Below.refl _ _, rfl⟩
  case' nx8 =>
    go_simp
    refine hK _ ?_
    clear hK K
  apply relWalk_ex rfl ?ox9 (fun K hK => ?nx9)
  case ox9 =>
    intro W hC hF
    obtain ⟨q0, q1, q2, q3, q4, q5, q6, q7, q8, q9, q10, q11, q12⟩ := lq13 hC.1
    go_simp
    all_goals exact ⟨Below.refl _ _, rfl⟩
  case' nx9 =>
    go_simp
    refine hK _ ?_
    clear hK K
  apply relWalk_ex rfl ?ox10 (fun K hK => ?nx10)
  case ox10 =>
    intro W hC hF
    obtain ⟨q0, q1, q2, q3, q4, q5, q6, q7, q8, q9, q10, q11, q12⟩ := lq13 hC.1
    go_simp
    all_goals exact (HE.out W hC.2).mono fun e w' ⟨he, hb⟩ => ⟨he, hb⟩
  case' nx10 =>
    go_simp
    refine hK _ ?_
    clear hK K
  apply relWalk_ex rfl ?ox11 (fun K hK => ?nx11)
  case ox11 =>
    intro W hC hF
    obtain ⟨q0, q1, q2, q3, q4, q5, q6, q7, q8, q9, q10, q11, q12⟩ := lq13 hC.1
    go_simp
    all_goals (first | exact ⟨Below.refl _ _, rfl⟩ | (rw [if_neg (by omega)]; exact ⟨Below.refl _ _, rfl⟩))
  case' nx11 =>
    go_simp
    refine hK _ ?_
    clear hK K
  apply relWalk_end
  intro W hC hF hU
  obtain ⟨hB, hBw⟩ := hC
  have HB9 := Lib.hid hBw
  clear hB hBw hU hF
  go_wp2_with fail
  go_ret
  exact ⟨congrArg Ending.returned (congrArg Value.string (by apply ByteArray.ext; simp)), HB9.out⟩

set_option maxRecDepth 100000 in
set_option maxHeartbeats 1000000 in
theorem line_ef0 (off kd sv : Int) (sf : ByteArray) (is : Bool) (y m d1 d2 d3 h1 h2 : Int) (w : World) (ao : ByteArray) (hk : decide (0 ≤ kd) = true) (hk2 : decide (kd ≤ 2) = true) (ha : (kd == 1) = false) (hsv : (sv == 0) = true) (hc : (kd == 2) = false) (HS : Hid (∀ W, Calls Tryz.prog 65 #[.string ⟨#[]⟩] W fun e w' => e = .returned (.bool false) ∧ Below W.heap.size W w')) (HF : Hid (∀ W, Calls Tryz.prog 49 #[.string sf] W fun e w' => e = .returned (.bool true) ∧ Below W.heap.size W w')) (hl0 : ao.size ≤ 1000) (hl1 : sf.size ≤ 1000) (HE : Hid (∀ W, Below w.heap.size w W → Calls Tryz.prog 66 #[.agg #[.bool is, .int .i64 y, .int .i64 m, .int .i64 d1, .int .i64 d2, .int .i64 d3, .int .i64 h1, .int .i64 h2]] W fun e w' => e = Fails 2 ∧ Below W.heap.size W w'))
    (HA : Hid (∀ W, Below w.heap.size w W → Calls Tryz.prog 64 #[.int .i64 off] W fun e w' => e = .returned (.string ao) ∧ Below W.heap.size W w')) :
    Calls Tryz.prog 27 #[.agg #[.int .i64 off, .int .i64 kd, .int .i64 sv, .string ⟨#[]⟩, .string sf, .bool is, .int .i64 y, .int .i64 m, .int .i64 d1, .int .i64 d2, .int .i64 d3, .int .i64 h1, .int .i64 h2]] w fun e w' => e = Fails 2 ∧ Below w.heap.size w w' := by
  have hB0 := (Below.refl w.heap.size w).alloc (Nat.le_refl _) (.cells #[.int .i64 off, .int .i64 kd, .int .i64 sv, .string ⟨#[]⟩, .string sf, .bool is, .int .i64 y, .int .i64 m, .int .i64 d1, .int .i64 d2, .int .i64 d3, .int .i64 h1, .int .i64 h2] 31)
  have HB0 := Lib.hid (And.intro (Blk.new' w 31 #[.int .i64 off, .int .i64 kd, .int .i64 sv, .string ⟨#[]⟩, .string sf, .bool is, .int .i64 y, .int .i64 m, .int .i64 d1, .int .i64 d2, .int .i64 d3, .int .i64 h1, .int .i64 h2] rfl) hB0)
  clear hB0
  go_enter Tryz.func27, Tryz.ntmps27
  go_wp2_with fail
  refine (HA.out _ HB0.out.2).mono ?_
  rintro e w1 ⟨rfl, hb1⟩
  have HB1 := Lib.hid (And.intro (HB0.out.1.below hb1 HB0.out.1.lt) (HB0.out.2.trans (hb1.mono HB0.out.2.size)))
  clear hb1 HB0 HA
  go_wp2_with fail
  refine wp_region_rels 42 [[], [], [], [], [], [], [], [], [], [], [], [], [], [], [], [], [], [], [], [], [], [], [], [], [], [], [], [], [], [], [], [], [], [], [], [], [], [], [], [], [], []] [Form.val, Form.val, Form.val, Form.val, Form.val, Form.val, Form.val, Form.val, Form.val, Form.val, Form.val, Form.val, Form.val, Form.val, Form.val, Form.val, Form.val, Form.val, Form.val, Form.val, Form.val, Form.val, Form.val, Form.val, Form.val, Form.val, Form.val, Form.val, Form.val, Form.val, Form.val, Form.val, Form.val, Form.val, Form.val, Form.val, Form.val, Form.val, Form.val, Form.val, Form.val, Form.val] (fun W => Blk W w.heap.size 31 #[.int .i64 off, .int .i64 kd, .int .i64 sv, .string ⟨#[]⟩, .string sf, .bool is, .int .i64 y, .int .i64 m, .int .i64 d1, .int .i64 d2, .int .i64 d3, .int .i64 h1, .int .i64 h2] ∧ Below w.heap.size w W) (by kernel_rfl) (by kernel_rfl) rfl rfl (⟨HB1.out.1, HB1.out.2.drew⟩) (fun W W' h hb => ⟨h.1.below hb h.1.lt, h.2.trans (hb.mono h.2.size)⟩) trivial ?_
  repeat (first | apply exSpec_rel | apply exSpec_new | apply exSpec_val)
  apply relWalk_ex rfl ?o0 (fun K hK => ?n0)
  case o0 =>
    intro W hC hF
    obtain ⟨q0, q1, q2, q3, q4⟩ := lq5 hC.1
    go_simp
    all_goals exact ⟨Below.refl _ _, rfl⟩
  case' n0 =>
    go_simp
    refine hK _ ?_
    clear hK K
  apply relWalk_ex rfl ?o1 (fun K hK => ?n1)
  case o1 =>
    intro W hC hF
    obtain ⟨q0, q1, q2, q3, q4⟩ := lq5 hC.1
    go_simp
    all_goals exact ⟨Below.refl _ _, rfl⟩
  case' n1 =>
    go_simp
    refine hK _ ?_
    clear hK K
  apply relWalk_ex rfl ?o2 (fun K hK => ?n2)
  case o2 =>
    intro W hC hF
    obtain ⟨q0, q1, q2, q3, q4⟩ := lq5 hC.1
    go_simp
    all_goals exact ⟨Below.refl _ _, rfl⟩
  case' n2 =>
    go_simp
    refine hK _ ?_
    clear hK K
  apply relWalk_ex rfl ?o3 (fun K hK => ?n3)
  case o3 =>
    intro W hC hF
    obtain ⟨q0, q1, q2, q3, q4⟩ := lq5 hC.1
    go_simp
    all_goals exact ⟨Below.refl _ _, rfl⟩
  case' n3 =>
    go_simp
    refine hK _ ?_
    clear hK K
  apply relWalk_exg ?o4 (fun K hK => ?n4)
  case o4 =>
    intro W hC hF
    first | exact relOp_off rfl rfl rfl rfl | exact relOp_none rfl rfl rfl | skip
    all_goals
      refine relOp_on rfl rfl ?_
      obtain ⟨q0, q1, q2, q3, q4⟩ := lq5 hC.1
      go_simp
      all_goals exact ⟨Below.refl _ _, rfl⟩
  case' n4 =>
    go_simp
    refine hK _ ?_
    clear hK K
  apply relWalk_exg ?o5 (fun K hK => ?n5)
  case o5 =>
    intro W hC hF
    first | exact relOp_off rfl rfl rfl rfl | exact relOp_none rfl rfl rfl | skip
    all_goals
      refine relOp_on rfl rfl ?_
      obtain ⟨q0, q1, q2, q3, q4⟩ := lq5 hC.1
      go_simp
      all_goals exact ⟨Below.refl _ _, rfl⟩
  case' n5 =>
    go_simp
    refine hK _ ?_
    clear hK K
  apply relWalk_exg ?o6 (fun K hK => ?n6)
  case o6 =>
    intro W hC hF
    first | exact relOp_off rfl rfl rfl rfl | exact relOp_none rfl rfl rfl | skip
    all_goals
      refine relOp_on rfl rfl ?_
      obtain ⟨q0, q1, q2, q3, q4⟩ := lq5 hC.1
      go_simp
      all_goals exact ⟨Below.refl _ _, rfl⟩
  case' n6 =>
    go_simp
    refine hK _ ?_
    clear hK K
  apply relWalk_ex rfl ?o7 (fun K hK => ?n7)
  case o7 =>
    intro W hC hF
    obtain ⟨q0, q1, q2, q3, q4⟩ := lq5 hC.1
    go_simp
    all_goals exact ⟨Below.refl _ _, rfl⟩
  case' n7 =>
    go_simp
    refine hK _ ?_
    clear hK K
  apply relWalk_ex rfl ?o8 (fun K hK => ?n8)
  case o8 =>
    intro W hC hF
    obtain ⟨q0, q1, q2, q3, q4⟩ := lq5 hC.1
    go_simp
    all_goals exact ⟨Below.refl _ _, rfl⟩
  case' n8 =>
    go_simp
    refine hK _ ?_
    clear hK K
  apply relWalk_exg ?o9 (fun K hK => ?n9)
  case o9 =>
    intro W hC hF
    first | exact relOp_off rfl rfl rfl rfl | exact relOp_none rfl rfl rfl | skip
    all_goals
      refine relOp_on rfl rfl ?_
      obtain ⟨q0, q1, q2, q3, q4⟩ := lq5 hC.1
      go_simp
      all_goals exact ⟨Below.refl _ _, rfl⟩
  case' n9 =>
    go_simp
    refine hK _ ?_
    clear hK K
  apply relWalk_exg ?o10 (fun K hK => ?n10)
  case o10 =>
    intro W hC hF
    first | exact relOp_off rfl rfl rfl rfl | exact relOp_none rfl rfl rfl | skip
    all_goals
      refine relOp_on rfl rfl ?_
      obtain ⟨q0, q1, q2, q3, q4⟩ := lq5 hC.1
      go_simp
      all_goals exact ⟨Below.refl _ _, rfl⟩
  case' n10 =>
    go_simp
    refine hK _ ?_
    clear hK K
  apply relWalk_exg ?o11 (fun K hK => ?n11)
  case o11 =>
    intro W hC hF
    first | exact relOp_off rfl rfl rfl rfl | exact relOp_none rfl rfl rfl | skip
    all_goals
      refine relOp_on rfl rfl ?_
      obtain ⟨q0, q1, q2, q3, q4⟩ := lq5 hC.1
      go_simp
      all_goals exact ⟨Below.refl _ _, rfl⟩
  case' n11 =>
    go_simp
    refine hK _ ?_
    clear hK K
  apply relWalk_exg ?o12 (fun K hK => ?n12)
  case o12 =>
    intro W hC hF
    first | exact relOp_off rfl rfl rfl rfl | exact relOp_none rfl rfl rfl | skip
    all_goals
      refine relOp_on rfl rfl ?_
      obtain ⟨q0, q1, q2, q3, q4⟩ := lq5 hC.1
      go_simp
      all_goals exact ⟨Below.refl _ _, rfl⟩
  case' n12 =>
    go_simp
    refine hK _ ?_
    clear hK K
  apply relWalk_exg ?o13 (fun K hK => ?n13)
  case o13 =>
    intro W hC hF
    first | exact relOp_off rfl rfl rfl rfl | exact relOp_none rfl rfl rfl | skip
    all_goals
      refine relOp_on rfl rfl ?_
      obtain ⟨q0, q1, q2, q3, q4⟩ := lq5 hC.1
      go_simp
      all_goals exact ⟨Below.refl _ _, rfl⟩
  case' n13 =>
    go_simp
    refine hK _ ?_
    clear hK K
  apply relWalk_exg ?o14 (fun K hK => ?n14)
  case o14 =>
    intro W hC hF
    first | exact relOp_off rfl rfl rfl rfl | exact relOp_none rfl rfl rfl | skip
    all_goals
      refine relOp_on rfl rfl ?_
      obtain ⟨q0, q1, q2, q3, q4⟩ := lq5 hC.1
      go_simp
      all_goals exact ⟨Below.refl _ _, rfl⟩
  case' n14 =>
    go_simp
    refine hK _ ?_
    clear hK K
  apply relWalk_exg ?o15 (fun K hK => ?n15)
  case o15 =>
    intro W hC hF
    first | exact relOp_off rfl rfl rfl rfl | exact relOp_none rfl rfl rfl | skip
    all_goals
      refine relOp_on rfl rfl ?_
      obtain ⟨q0, q1, q2, q3, q4⟩ := lq5 hC.1
      go_simp
      all_goals exact ⟨Below.refl _ _, rfl⟩
  case' n15 =>
    go_simp
    refine hK _ ?_
    clear hK K
  apply relWalk_exg ?o16 (fun K hK => ?n16)
  case o16 =>
    intro W hC hF
    first | exact relOp_off rfl rfl rfl rfl | exact relOp_none rfl rfl rfl | skip
    all_goals
      refine relOp_on rfl rfl ?_
      obtain ⟨q0, q1, q2, q3, q4⟩ := lq5 hC.1
      go_simp
      all_goals exact ⟨Below.refl _ _, rfl⟩
  case' n16 =>
    go_simp
    refine hK _ ?_
    clear hK K
  apply relWalk_ex rfl ?o17 (fun K hK => ?n17)
  case o17 =>
    intro W hC hF
    obtain ⟨q0, q1, q2, q3, q4⟩ := lq5 hC.1
    go_simp
    all_goals exact ⟨Below.refl _ _, rfl⟩
  case' n17 =>
    go_simp
    refine hK _ ?_
    clear hK K
  apply relWalk_ex rfl ?o18 (fun K hK => ?n18)
  case o18 =>
    intro W hC hF
    obtain ⟨q0, q1, q2, q3, q4⟩ := lq5 hC.1
    go_simp
    all_goals exact ⟨Below.refl _ _, rfl⟩
  case' n18 =>
    go_simp
    refine hK _ ?_
    clear hK K
  apply relWalk_exg ?o19 (fun K hK => ?n19)
  case o19 =>
    intro W hC hF
    first | exact relOp_off rfl rfl rfl rfl | exact relOp_none rfl rfl rfl | skip
    all_goals
      refine relOp_on rfl rfl ?_
      obtain ⟨q0, q1, q2, q3, q4⟩ := lq5 hC.1
      go_simp
      all_goals exact ⟨Below.refl _ _, rfl⟩
  case' n19 =>
    go_simp
    refine hK _ ?_
    clear hK K
  apply relWalk_exg ?o20 (fun K hK => ?n20)
  case o20 =>
    intro W hC hF
    first | exact relOp_off rfl rfl rfl rfl | exact relOp_none rfl rfl rfl | skip
    all_goals
      refine relOp_on rfl rfl ?_
      obtain ⟨q0, q1, q2, q3, q4⟩ := lq5 hC.1
      go_simp
      all_goals exact ⟨Below.refl _ _, rfl⟩
  case' n20 =>
    go_simp
    refine hK _ ?_
    clear hK K
  apply relWalk_exg ?o21 (fun K hK => ?n21)
  case o21 =>
    intro W hC hF
    first | exact relOp_off rfl rfl rfl rfl | exact relOp_none rfl rfl rfl | skip
    all_goals
      refine relOp_on rfl rfl ?_
      obtain ⟨q0, q1, q2, q3, q4⟩ := lq5 hC.1
      go_simp
      all_goals exact ⟨Below.refl _ _, rfl⟩
  case' n21 =>
    go_simp
    refine hK _ ?_
    clear hK K
  apply relWalk_exg ?o22 (fun K hK => ?n22)
  case o22 =>
    intro W hC hF
    first | exact relOp_off rfl rfl rfl rfl | exact relOp_none rfl rfl rfl | skip
    all_goals
      refine relOp_on rfl rfl ?_
      obtain ⟨q0, q1, q2, q3, q4⟩ := lq5 hC.1
      go_simp
      all_goals exact ⟨Below.refl _ _, rfl⟩
  case' n22 =>
    go_simp
    refine hK _ ?_
    clear hK K
  apply relWalk_exg ?o23 (fun K hK => ?n23)
  case o23 =>
    intro W hC hF
    first | exact relOp_off rfl rfl rfl rfl | exact relOp_none rfl rfl rfl | skip
    all_goals
      refine relOp_on rfl rfl ?_
      obtain ⟨q0, q1, q2, q3, q4⟩ := lq5 hC.1
      go_simp
      all_goals exact ⟨Below.refl _ _, rfl⟩
  case' n23 =>
    go_simp
    refine hK _ ?_
    clear hK K
  apply relWalk_exg ?o24 (fun K hK => ?n24)
  case o24 =>
    intro W hC hF
    first | exact relOp_off rfl rfl rfl rfl | exact relOp_none rfl rfl rfl | skip
    all_goals
      refine relOp_on rfl rfl ?_
      obtain ⟨q0, q1, q2, q3, q4⟩ := lq5 hC.1
      go_simp
      all_goals exact (HS.out W).mono fun e w' ⟨he, hb⟩ => ⟨he, hb⟩
  case' n24 =>
    go_simp
    refine hK _ ?_
    clear hK K
  apply relWalk_exg ?o25 (fun K hK => ?n25)
  case o25 =>
    intro W hC hF
    first | exact relOp_off rfl rfl rfl rfl | exact relOp_none rfl rfl rfl | skip
    all_goals
      refine relOp_on rfl rfl ?_
      obtain ⟨q0, q1, q2, q3, q4⟩ := lq5 hC.1
      go_simp
      all_goals exact ⟨Below.refl _ _, rfl⟩
  case' n25 =>
    go_simp
    refine hK _ ?_
    clear hK K
  apply relWalk_ex rfl ?o26 (fun K hK => ?n26)
  case o26 =>
    intro W hC hF
    obtain ⟨q0, q1, q2, q3, q4⟩ := lq5 hC.1
    go_simp
    all_goals exact ⟨Below.refl _ _, rfl⟩
  case' n26 =>
    go_simp
    refine hK _ ?_
    clear hK K
  apply relWalk_ex rfl ?o27 (fun K hK => ?n27)
  case o27 =>
    intro W hC hF
    obtain ⟨q0, q1, q2, q3, q4⟩ := lq5 hC.1
    go_simp
    all_goals exact ⟨Below.refl _ _, rfl⟩
  case' n27 =>
    go_simp
    refine hK _ ?_
    clear hK K
  apply relWalk_exg ?o28 (fun K hK => ?n28)
  case o28 =>
    intro W hC hF
    first | exact relOp_off rfl rfl rfl rfl | exact relOp_none rfl rfl rfl | skip
    all_goals
      refine relOp_on rfl rfl ?_
      obtain ⟨q0, q1, q2, q3, q4⟩ := lq5 hC.1
      go_simp
      all_goals exact ⟨Below.refl _ _, rfl⟩
  case' n28 =>
    go_simp
    refine hK _ ?_
    clear hK K
  apply relWalk_exg ?o29 (fun K hK => ?n29)
  case o29 =>
    intro W hC hF
    first | exact relOp_off rfl rfl rfl rfl | exact relOp_none rfl rfl rfl | skip
    all_goals
      refine relOp_on rfl rfl ?_
      obtain ⟨q0, q1, q2, q3, q4⟩ := lq5 hC.1
      go_simp
      all_goals exact ⟨Below.refl _ _, rfl⟩
  case' n29 =>
    go_simp
    refine hK _ ?_
    clear hK K
  apply relWalk_exg ?o30 (fun K hK => ?n30)
  case o30 =>
    intro W hC hF
    first | exact relOp_off rfl rfl rfl rfl | exact relOp_none rfl rfl rfl | skip
    all_goals
      refine relOp_on rfl rfl ?_
      obtain ⟨q0, q1, q2, q3, q4⟩ := lq5 hC.1
      go_simp
      all_goals exact ⟨Below.refl _ _, rfl⟩
  case' n30 =>
    go_simp
    refine hK _ ?_
    clear hK K
  apply relWalk_exg ?o31 (fun K hK => ?n31)
  case o31 =>
    intro W hC hF
    first | exact relOp_off rfl rfl rfl rfl | exact relOp_none rfl rfl rfl | skip
    all_goals
      refine relOp_on rfl rfl ?_
      obtain ⟨q0, q1, q2, q3, q4⟩ := lq5 hC.1
      go_simp
      all_goals exact ⟨Below.refl _ _, rfl⟩
  case' n31 =>
    go_simp
    refine hK _ ?_
    clear hK K
  apply relWalk_exg ?o32 (fun K hK => ?n32)
  case o32 =>
    intro W hC hF
    first | exact relOp_off rfl rfl rfl rfl | exact relOp_none rfl rfl rfl | skip
    all_goals
      refine relOp_on rfl rfl ?_
      obtain ⟨q0, q1, q2, q3, q4⟩ := lq5 hC.1
      go_simp
      all_goals exact ⟨Below.refl _ _, rfl⟩
  case' n32 =>
    go_simp
    refine hK _ ?_
    clear hK K
  apply relWalk_exg ?o33 (fun K hK => ?n33)
  case o33 =>
    intro W hC hF
    first | exact relOp_off rfl rfl rfl rfl | exact relOp_none rfl rfl rfl | skip
    all_goals
      refine relOp_on rfl rfl ?_
      obtain ⟨q0, q1, q2, q3, q4⟩ := lq5 hC.1
      go_simp
      all_goals exact ⟨Below.refl _ _, rfl⟩
  case' n33 =>
    go_simp
    refine hK _ ?_
    clear hK K
  apply relWalk_exg ?o34 (fun K hK => ?n34)
  case o34 =>
    intro W hC hF
    first | exact relOp_off rfl rfl rfl rfl | exact relOp_none rfl rfl rfl | skip
    all_goals
      refine relOp_on rfl rfl ?_
      obtain ⟨q0, q1, q2, q3, q4⟩ := lq5 hC.1
      go_simp
      all_goals exact ⟨Below.refl _ _, rfl⟩
  case' n34 =>
    go_simp
    refine hK _ ?_
    clear hK K
  apply relWalk_exg ?o35 (fun K hK => ?n35)
  case o35 =>
    intro W hC hF
    first | exact relOp_off rfl rfl rfl rfl | exact relOp_none rfl rfl rfl | skip
    all_goals
      refine relOp_on rfl rfl ?_
      obtain ⟨q0, q1, q2, q3, q4⟩ := lq5 hC.1
      go_simp
      all_goals exact ⟨Below.refl _ _, rfl⟩
  case' n35 =>
    go_simp
    refine hK _ ?_
    clear hK K
  apply relWalk_ex rfl ?o36 (fun K hK => ?n36)
  case o36 =>
    intro W hC hF
    obtain ⟨q0, q1, q2, q3, q4⟩ := lq5 hC.1
    go_simp
    all_goals exact ⟨Below.refl _ _, rfl⟩
  case' n36 =>
    go_simp
    refine hK _ ?_
    clear hK K
  apply relWalk_ex rfl ?o37 (fun K hK => ?n37)
  case o37 =>
    intro W hC hF
    obtain ⟨q0, q1, q2, q3, q4⟩ := lq5 hC.1
    go_simp
    all_goals exact ⟨Below.refl _ _, rfl⟩
  case' n37 =>
    go_simp
    refine hK _ ?_
    clear hK K
  apply relWalk_exg ?o38 (fun K hK => ?n38)
  case o38 =>
    intro W hC hF
    first | exact relOp_off rfl rfl rfl rfl | exact relOp_none rfl rfl rfl | skip
    all_goals
      refine relOp_on rfl rfl ?_
      obtain ⟨q0, q1, q2, q3, q4⟩ := lq5 hC.1
      go_simp
      all_goals exact ⟨Below.refl _ _, rfl⟩
  case' n38 =>
    go_simp
    refine hK _ ?_
    clear hK K
  apply relWalk_exg ?o39 (fun K hK => ?n39)
  case o39 =>
    intro W hC hF
    first | exact relOp_off rfl rfl rfl rfl | exact relOp_none rfl rfl rfl | skip
    all_goals
      refine relOp_on rfl rfl ?_
      obtain ⟨q0, q1, q2, q3, q4⟩ := lq5 hC.1
      go_simp
      all_goals exact ⟨Below.refl _ _, rfl⟩
  case' n39 =>
    go_simp
    refine hK _ ?_
    clear hK K
  apply relWalk_exg ?o40 (fun K hK => ?n40)
  case o40 =>
    intro W hC hF
    first | exact relOp_off rfl rfl rfl rfl | exact relOp_none rfl rfl rfl | skip
    all_goals
      refine relOp_on rfl rfl ?_
      obtain ⟨q0, q1, q2, q3, q4⟩ := lq5 hC.1
      go_simp
      all_goals exact (HF.out W).mono fun e w' ⟨he, hb⟩ => ⟨he, hb⟩
  case' n40 =>
    go_simp
    refine hK _ ?_
    clear hK K
  apply relWalk_ex rfl ?o41 (fun K hK => ?n41)
  case o41 =>
    intro W hC hF
    obtain ⟨q0, q1, q2, q3, q4⟩ := lq5 hC.1
    go_simp
    all_goals exact ⟨Below.refl _ _, rfl⟩
  case' n41 =>
    go_simp
    refine hK _ ?_
    clear hK K
  apply relWalk_end
  intro W hC hF hU
  clear HB1
  have HB2 := Lib.hid hC
  clear hC hU hF
  go_wp2_with fail
  refine (must_yes _ _).mono ?_
  rintro e w3 ⟨rfl, rfl⟩
  have q1 : W.cell? ⟨w.heap.size, 1, none⟩ = some (.int .i64 kd) := HB2.out.1.cell_ rfl
  go_wp2_with fail
  clear q1
  refine wp_region_fail 12 10 [[], [], [], [], [], [], [], [], [], []] (fun W => Blk W w.heap.size 31 #[.int .i64 off, .int .i64 kd, .int .i64 sv, .string ⟨#[]⟩, .string sf, .bool is, .int .i64 y, .int .i64 m, .int .i64 d1, .int .i64 d2, .int .i64 d3, .int .i64 h1, .int .i64 h2] ∧ Below w.heap.size w W) (by kernel_rfl) (by kernel_rfl) (by decide) rfl (by kernel_rfl) (⟨HB2.out.1, HB2.out.2.drew⟩) (fun W W' h hb => ⟨h.1.below hb h.1.lt, h.2.trans (hb.mono h.2.size)⟩) ?_
  iterate 10 apply exVal_next
  apply exVal_end
  apply relWalk_ex rfl ?ox0 (fun K hK => ?nx0)
  case ox0 =>
    intro W hC hF
    obtain ⟨q0, q1, q2, q3, q4, q5, q6, q7, q8, q9, q10, q11, q12⟩ := lq13 hC.1
    go_simp
    all_goals exact ⟨Below.refl _ _, rfl⟩
  case' nx0 =>
    go_simp
    refine hK _ ?_
    clear hK K
  apply relWalk_ex rfl ?ox1 (fun K hK => ?nx1)
  case ox1 =>
    intro W hC hF
    obtain ⟨q0, q1, q2, q3, q4, q5, q6, q7, q8, q9, q10, q11, q12⟩ := lq13 hC.1
    go_simp
    all_goals (first | exact ⟨Below.refl _ _, rfl⟩ | (rw [if_neg (by omega)]; exact ⟨Below.refl _ _, rfl⟩))
  case' nx1 =>
    go_simp
    refine hK _ ?_
    clear hK K
  apply relWalk_ex rfl ?ox2 (fun K hK => ?nx2)
  case ox2 =>
    intro W hC hF
    obtain ⟨q0, q1, q2, q3, q4, q5, q6, q7, q8, q9, q10, q11, q12⟩ := lq13 hC.1
    go_simp
    all_goals exact ⟨Below.refl _ _, rfl⟩
  case' nx2 =>
    go_simp
    refine hK _ ?_
    clear hK K
  apply relWalk_ex rfl ?ox3 (fun K hK => ?nx3)
  case ox3 =>
    intro W hC hF
    obtain ⟨q0, q1, q2, q3, q4, q5, q6, q7, q8, q9, q10, q11, q12⟩ := lq13 hC.1
    go_simp
    all_goals (first | exact ⟨Below.refl _ _, rfl⟩ | (rw [if_neg (by omega)]; exact ⟨Below.refl _ _, rfl⟩))
  case' nx3 =>
    go_simp
    refine hK _ ?_
    clear hK K
  apply relWalk_ex rfl ?ox4 (fun K hK => ?nx4)
  case ox4 =>
    intro W hC hF
    obtain ⟨q0, q1, q2, q3, q4, q5, q6, q7, q8, q9, q10, q11, q12⟩ := lq13 hC.1
    go_simp
    all_goals (first | exact ⟨Below.refl _ _, rfl⟩ | (rw [if_neg (by omega)]; exact ⟨Below.refl _ _, rfl⟩))
  case' nx4 =>
    go_simp
    refine hK _ ?_
    clear hK K
  apply relWalk_ex rfl ?ox5 (fun K hK => ?nx5)
  case ox5 =>
    intro W hC hF
    obtain ⟨q0, q1, q2, q3, q4, q5, q6, q7, q8, q9, q10, q11, q12⟩ := lq13 hC.1
    go_simp
    all_goals exact ⟨Below.refl _ _, rfl⟩
  case' nx5 =>
    go_simp
    refine hK _ ?_
    clear hK K
  apply relWalk_ex rfl ?ox6 (fun K hK => ?nx6)
  case ox6 =>
    intro W hC hF
    obtain ⟨q0, q1, q2, q3, q4, q5, q6, q7, q8, q9, q10, q11, q12⟩ := lq13 hC.1
    go_simp
    all_goals exact ⟨Below.refl _ _, rfl⟩
  case' nx6 =>
    go_simp
    refine hK _ ?_
    clear hK K
  apply relWalk_ex rfl ?ox7 (fun K hK => ?nx7)
  case ox7 =>
    intro W hC hF
    obtain ⟨q0, q1, q2, q3, q4, q5, q6, q7, q8, q9, q10, q11, q12⟩ := lq13 hC.1
    go_simp
    all_goals (first | exact ⟨Below.refl _ _, rfl⟩ | (rw [if_neg (by omega)]; exact ⟨Below.refl _ _, rfl⟩))
  case' nx7 =>
    go_simp
    refine hK _ ?_
    clear hK K
  apply relWalk_ex rfl ?ox8 (fun K hK => ?nx8)
  case ox8 =>
    intro W hC hF
    obtain ⟨q0, q1, q2, q3, q4, q5, q6, q7, q8, q9, q10, q11, q12⟩ := lq13 hC.1
    go_simp
    all_goals exact ⟨Below.refl _ _, rfl⟩
  case' nx8 =>
    go_simp
    refine hK _ ?_
    clear hK K
  apply relWalk_ex rfl ?ox9 (fun K hK => ?nx9)
  case ox9 =>
    intro W hC hF
    obtain ⟨q0, q1, q2, q3, q4, q5, q6, q7, q8, q9, q10, q11, q12⟩ := lq13 hC.1
    go_simp
    all_goals exact ⟨Below.refl _ _, rfl⟩
  case' nx9 =>
    go_simp
    refine hK _ ?_
    clear hK K
  apply relWalk_endf
  intro W hC
  refine failOp_at rfl rfl ?_
  go_simp
  exact (HE.out W hC.2).mono fun e w' ⟨he, hb⟩ => ⟨_, he, PanicQ.of fun b hd => ⟨hd, rfl, hC.2.trans (hb.mono hC.2.size)⟩⟩

set_option maxRecDepth 100000 in
set_option maxHeartbeats 1000000 in
theorem line_ef1 (off kd sv : Int) (sf : ByteArray) (is : Bool) (y m d1 d2 d3 h1 h2 : Int) (w : World) (ao : ByteArray) (hk : decide (0 ≤ kd) = true) (hk2 : decide (kd ≤ 2) = true) (ha : (kd == 1) = true) (hc : (kd == 2) = false) (HS : Hid (∀ W, Calls Tryz.prog 65 #[.string ⟨#[]⟩] W fun e w' => e = .returned (.bool false) ∧ Below W.heap.size W w')) (HF : Hid (∀ W, Calls Tryz.prog 49 #[.string sf] W fun e w' => e = .returned (.bool true) ∧ Below W.heap.size W w')) (hl0 : ao.size ≤ 1000) (hl1 : sf.size ≤ 1000) (as_ : ByteArray) (hl3 : as_.size ≤ 1000) (HA2 : Hid (∀ W, Below w.heap.size w W → Calls Tryz.prog 64 #[.int .i64 sv] W fun e w' => e = .returned (.string as_) ∧ Below W.heap.size W w')) (HE : Hid (∀ W, Below w.heap.size w W → Calls Tryz.prog 66 #[.agg #[.bool is, .int .i64 y, .int .i64 m, .int .i64 d1, .int .i64 d2, .int .i64 d3, .int .i64 h1, .int .i64 h2]] W fun e w' => e = Fails 2 ∧ Below W.heap.size W w'))
    (HA : Hid (∀ W, Below w.heap.size w W → Calls Tryz.prog 64 #[.int .i64 off] W fun e w' => e = .returned (.string ao) ∧ Below W.heap.size W w')) :
    Calls Tryz.prog 27 #[.agg #[.int .i64 off, .int .i64 kd, .int .i64 sv, .string ⟨#[]⟩, .string sf, .bool is, .int .i64 y, .int .i64 m, .int .i64 d1, .int .i64 d2, .int .i64 d3, .int .i64 h1, .int .i64 h2]] w fun e w' => e = Fails 2 ∧ Below w.heap.size w w' := by
  have hB0 := (Below.refl w.heap.size w).alloc (Nat.le_refl _) (.cells #[.int .i64 off, .int .i64 kd, .int .i64 sv, .string ⟨#[]⟩, .string sf, .bool is, .int .i64 y, .int .i64 m, .int .i64 d1, .int .i64 d2, .int .i64 d3, .int .i64 h1, .int .i64 h2] 31)
  have HB0 := Lib.hid (And.intro (Blk.new' w 31 #[.int .i64 off, .int .i64 kd, .int .i64 sv, .string ⟨#[]⟩, .string sf, .bool is, .int .i64 y, .int .i64 m, .int .i64 d1, .int .i64 d2, .int .i64 d3, .int .i64 h1, .int .i64 h2] rfl) hB0)
  clear hB0
  go_enter Tryz.func27, Tryz.ntmps27
  go_wp2_with fail
  refine (HA.out _ HB0.out.2).mono ?_
  rintro e w1 ⟨rfl, hb1⟩
  have HB1 := Lib.hid (And.intro (HB0.out.1.below hb1 HB0.out.1.lt) (HB0.out.2.trans (hb1.mono HB0.out.2.size)))
  clear hb1 HB0 HA
  go_wp2_with fail
  refine wp_region_rels 42 [[], [], [], [], [], [], [], [], [], [], [], [], [], [], [], [], [], [], [], [], [], [], [], [], [], [], [], [], [], [], [], [], [], [], [], [], [], [], [], [], [], []] [Form.val, Form.val, Form.val, Form.val, Form.val, Form.val, Form.val, Form.val, Form.val, Form.val, Form.val, Form.val, Form.val, Form.val, Form.val, Form.val, Form.val, Form.val, Form.val, Form.val, Form.val, Form.val, Form.val, Form.val, Form.val, Form.val, Form.val, Form.val, Form.val, Form.val, Form.val, Form.val, Form.val, Form.val, Form.val, Form.val, Form.val, Form.val, Form.val, Form.val, Form.val, Form.val] (fun W => Blk W w.heap.size 31 #[.int .i64 off, .int .i64 kd, .int .i64 sv, .string ⟨#[]⟩, .string sf, .bool is, .int .i64 y, .int .i64 m, .int .i64 d1, .int .i64 d2, .int .i64 d3, .int .i64 h1, .int .i64 h2] ∧ Below w.heap.size w W) (by kernel_rfl) (by kernel_rfl) rfl rfl (⟨HB1.out.1, HB1.out.2.drew⟩) (fun W W' h hb => ⟨h.1.below hb h.1.lt, h.2.trans (hb.mono h.2.size)⟩) trivial ?_
  repeat (first | apply exSpec_rel | apply exSpec_new | apply exSpec_val)
  apply relWalk_ex rfl ?o0 (fun K hK => ?n0)
  case o0 =>
    intro W hC hF
    obtain ⟨q0, q1, q2, q3, q4⟩ := lq5 hC.1
    go_simp
    all_goals exact ⟨Below.refl _ _, rfl⟩
  case' n0 =>
    go_simp
    refine hK _ ?_
    clear hK K
  apply relWalk_ex rfl ?o1 (fun K hK => ?n1)
  case o1 =>
    intro W hC hF
    obtain ⟨q0, q1, q2, q3, q4⟩ := lq5 hC.1
    go_simp
    all_goals exact ⟨Below.refl _ _, rfl⟩
  case' n1 =>
    go_simp
    refine hK _ ?_
    clear hK K
  apply relWalk_ex rfl ?o2 (fun K hK => ?n2)
  case o2 =>
    intro W hC hF
    obtain ⟨q0, q1, q2, q3, q4⟩ := lq5 hC.1
    go_simp
    all_goals exact ⟨Below.refl _ _, rfl⟩
  case' n2 =>
    go_simp
    refine hK _ ?_
    clear hK K
  apply relWalk_ex rfl ?o3 (fun K hK => ?n3)
  case o3 =>
    intro W hC hF
    obtain ⟨q0, q1, q2, q3, q4⟩ := lq5 hC.1
    go_simp
    all_goals exact ⟨Below.refl _ _, rfl⟩
  case' n3 =>
    go_simp
    refine hK _ ?_
    clear hK K
  apply relWalk_exg ?o4 (fun K hK => ?n4)
  case o4 =>
    intro W hC hF
    first | exact relOp_off rfl rfl rfl rfl | exact relOp_none rfl rfl rfl | skip
    all_goals
      refine relOp_on rfl rfl ?_
      obtain ⟨q0, q1, q2, q3, q4⟩ := lq5 hC.1
      go_simp
      all_goals exact ⟨Below.refl _ _, rfl⟩
  case' n4 =>
    go_simp
    refine hK _ ?_
    clear hK K
  apply relWalk_exg ?o5 (fun K hK => ?n5)
  case o5 =>
    intro W hC hF
    first | exact relOp_off rfl rfl rfl rfl | exact relOp_none rfl rfl rfl | skip
    all_goals
      refine relOp_on rfl rfl ?_
      obtain ⟨q0, q1, q2, q3, q4⟩ := lq5 hC.1
      go_simp
      all_goals exact ⟨Below.refl _ _, rfl⟩
  case' n5 =>
    go_simp
    refine hK _ ?_
    clear hK K
  apply relWalk_exg ?o6 (fun K hK => ?n6)
  case o6 =>
    intro W hC hF
    first | exact relOp_off rfl rfl rfl rfl | exact relOp_none rfl rfl rfl | skip
    all_goals
      refine relOp_on rfl rfl ?_
      obtain ⟨q0, q1, q2, q3, q4⟩ := lq5 hC.1
      go_simp
      all_goals exact ⟨Below.refl _ _, rfl⟩
  case' n6 =>
    go_simp
    refine hK _ ?_
    clear hK K
  apply relWalk_ex rfl ?o7 (fun K hK => ?n7)
  case o7 =>
    intro W hC hF
    obtain ⟨q0, q1, q2, q3, q4⟩ := lq5 hC.1
    go_simp
    all_goals exact ⟨Below.refl _ _, rfl⟩
  case' n7 =>
    go_simp
    refine hK _ ?_
    clear hK K
  apply relWalk_ex rfl ?o8 (fun K hK => ?n8)
  case o8 =>
    intro W hC hF
    obtain ⟨q0, q1, q2, q3, q4⟩ := lq5 hC.1
    go_simp
    all_goals exact ⟨Below.refl _ _, rfl⟩
  case' n8 =>
    go_simp
    refine hK _ ?_
    clear hK K
  apply relWalk_exg ?o9 (fun K hK => ?n9)
  case o9 =>
    intro W hC hF
    first | exact relOp_off rfl rfl rfl rfl | exact relOp_none rfl rfl rfl | skip
    all_goals
      refine relOp_on rfl rfl ?_
      obtain ⟨q0, q1, q2, q3, q4⟩ := lq5 hC.1
      go_simp
      all_goals exact ⟨Below.refl _ _, rfl⟩
  case' n9 =>
    go_simp
    refine hK _ ?_
    clear hK K
  apply relWalk_exg ?o10 (fun K hK => ?n10)
  case o10 =>
    intro W hC hF
    first | exact relOp_off rfl rfl rfl rfl | exact relOp_none rfl rfl rfl | skip
    all_goals
      refine relOp_on rfl rfl ?_
      obtain ⟨q0, q1, q2, q3, q4⟩ := lq5 hC.1
      go_simp
      all_goals exact ⟨Below.refl _ _, rfl⟩
  case' n10 =>
    go_simp
    refine hK _ ?_
    clear hK K
  apply relWalk_exg ?o11 (fun K hK => ?n11)
  case o11 =>
    intro W hC hF
    first | exact relOp_off rfl rfl rfl rfl | exact relOp_none rfl rfl rfl | skip
    all_goals
      refine relOp_on rfl rfl ?_
      obtain ⟨q0, q1, q2, q3, q4⟩ := lq5 hC.1
      go_simp
      all_goals exact ⟨Below.refl _ _, rfl⟩
  case' n11 =>
    go_simp
    refine hK _ ?_
    clear hK K
  apply relWalk_exg ?o12 (fun K hK => ?n12)
  case o12 =>
    intro W hC hF
    first | exact relOp_off rfl rfl rfl rfl | exact relOp_none rfl rfl rfl | skip
    all_goals
      refine relOp_on rfl rfl ?_
      obtain ⟨q0, q1, q2, q3, q4⟩ := lq5 hC.1
      go_simp
      all_goals exact ⟨Below.refl _ _, rfl⟩
  case' n12 =>
    go_simp
    refine hK _ ?_
    clear hK K
  apply relWalk_exg ?o13 (fun K hK => ?n13)
  case o13 =>
    intro W hC hF
    first | exact relOp_off rfl rfl rfl rfl | exact relOp_none rfl rfl rfl | skip
    all_goals
      refine relOp_on rfl rfl ?_
      obtain ⟨q0, q1, q2, q3, q4⟩ := lq5 hC.1
      go_simp
      all_goals exact ⟨Below.refl _ _, rfl⟩
  case' n13 =>
    go_simp
    refine hK _ ?_
    clear hK K
  apply relWalk_exg ?o14 (fun K hK => ?n14)
  case o14 =>
    intro W hC hF
    first | exact relOp_off rfl rfl rfl rfl | exact relOp_none rfl rfl rfl | skip
    all_goals
      refine relOp_on rfl rfl ?_
      obtain ⟨q0, q1, q2, q3, q4⟩ := lq5 hC.1
      go_simp
      all_goals exact ⟨Below.refl _ _, rfl⟩
  case' n14 =>
    go_simp
    refine hK _ ?_
    clear hK K
  apply relWalk_exg ?o15 (fun K hK => ?n15)
  case o15 =>
    intro W hC hF
    first | exact relOp_off rfl rfl rfl rfl | exact relOp_none rfl rfl rfl | skip
    all_goals
      refine relOp_on rfl rfl ?_
      obtain ⟨q0, q1, q2, q3, q4⟩ := lq5 hC.1
      go_simp
      all_goals exact ⟨Below.refl _ _, rfl⟩
  case' n15 =>
    go_simp
    refine hK _ ?_
    clear hK K
  apply relWalk_exg ?o16 (fun K hK => ?n16)
  case o16 =>
    intro W hC hF
    first | exact relOp_off rfl rfl rfl rfl | exact relOp_none rfl rfl rfl | skip
    all_goals
      refine relOp_on rfl rfl ?_
      obtain ⟨q0, q1, q2, q3, q4⟩ := lq5 hC.1
      go_simp
      all_goals exact ⟨Below.refl _ _, rfl⟩
  case' n16 =>
    go_simp
    refine hK _ ?_
    clear hK K
  apply relWalk_ex rfl ?o17 (fun K hK => ?n17)
  case o17 =>
    intro W hC hF
    obtain ⟨q0, q1, q2, q3, q4⟩ := lq5 hC.1
    go_simp
    all_goals exact ⟨Below.refl _ _, rfl⟩
  case' n17 =>
    go_simp
    refine hK _ ?_
    clear hK K
  apply relWalk_ex rfl ?o18 (fun K hK => ?n18)
  case o18 =>
    intro W hC hF
    obtain ⟨q0, q1, q2, q3, q4⟩ := lq5 hC.1
    go_simp
    all_goals exact ⟨Below.refl _ _, rfl⟩
  case' n18 =>
    go_simp
    refine hK _ ?_
    clear hK K
  apply relWalk_exg ?o19 (fun K hK => ?n19)
  case o19 =>
    intro W hC hF
    first | exact relOp_off rfl rfl rfl rfl | exact relOp_none rfl rfl rfl | skip
    all_goals
      refine relOp_on rfl rfl ?_
      obtain ⟨q0, q1, q2, q3, q4⟩ := lq5 hC.1
      go_simp
      all_goals exact ⟨Below.refl _ _, rfl⟩
  case' n19 =>
    go_simp
    refine hK _ ?_
    clear hK K
  apply relWalk_exg ?o20 (fun K hK => ?n20)
  case o20 =>
    intro W hC hF
    first | exact relOp_off rfl rfl rfl rfl | exact relOp_none rfl rfl rfl | skip
    all_goals
      refine relOp_on rfl rfl ?_
      obtain ⟨q0, q1, q2, q3, q4⟩ := lq5 hC.1
      go_simp
      all_goals exact ⟨Below.refl _ _, rfl⟩
  case' n20 =>
    go_simp
    refine hK _ ?_
    clear hK K
  apply relWalk_exg ?o21 (fun K hK => ?n21)
  case o21 =>
    intro W hC hF
    first | exact relOp_off rfl rfl rfl rfl | exact relOp_none rfl rfl rfl | skip
    all_goals
      refine relOp_on rfl rfl ?_
      obtain ⟨q0, q1, q2, q3, q4⟩ := lq5 hC.1
      go_simp
      all_goals exact ⟨Below.refl _ _, rfl⟩
  case' n21 =>
    go_simp
    refine hK _ ?_
    clear hK K
  apply relWalk_exg ?o22 (fun K hK => ?n22)
  case o22 =>
    intro W hC hF
    first | exact relOp_off rfl rfl rfl rfl | exact relOp_none rfl rfl rfl | skip
    all_goals
      refine relOp_on rfl rfl ?_
      obtain ⟨q0, q1, q2, q3, q4⟩ := lq5 hC.1
      go_simp
      all_goals exact ⟨Below.refl _ _, rfl⟩
  case' n22 =>
    go_simp
    refine hK _ ?_
    clear hK K
  apply relWalk_exg ?o23 (fun K hK => ?n23)
  case o23 =>
    intro W hC hF
    first | exact relOp_off rfl rfl rfl rfl | exact relOp_none rfl rfl rfl | skip
    all_goals
      refine relOp_on rfl rfl ?_
      obtain ⟨q0, q1, q2, q3, q4⟩ := lq5 hC.1
      go_simp
      all_goals exact ⟨Below.refl _ _, rfl⟩
  case' n23 =>
    go_simp
    refine hK _ ?_
    clear hK K
  apply relWalk_exg ?o24 (fun K hK => ?n24)
  case o24 =>
    intro W hC hF
    first | exact relOp_off rfl rfl rfl rfl | exact relOp_none rfl rfl rfl | skip
    all_goals
      refine relOp_on rfl rfl ?_
      obtain ⟨q0, q1, q2, q3, q4⟩ := lq5 hC.1
      go_simp
      all_goals exact (HS.out W).mono fun e w' ⟨he, hb⟩ => ⟨he, hb⟩
  case' n24 =>
    go_simp
    refine hK _ ?_
    clear hK K
  apply relWalk_exg ?o25 (fun K hK => ?n25)
  case o25 =>
    intro W hC hF
    first | exact relOp_off rfl rfl rfl rfl | exact relOp_none rfl rfl rfl | skip
    all_goals
      refine relOp_on rfl rfl ?_
      obtain ⟨q0, q1, q2, q3, q4⟩ := lq5 hC.1
      go_simp
      all_goals exact ⟨Below.refl _ _, rfl⟩
  case' n25 =>
    go_simp
    refine hK _ ?_
    clear hK K
  apply relWalk_ex rfl ?o26 (fun K hK => ?n26)
  case o26 =>
    intro W hC hF
    obtain ⟨q0, q1, q2, q3, q4⟩ := lq5 hC.1
    go_simp
    all_goals exact ⟨Below.refl _ _, rfl⟩
  case' n26 =>
    go_simp
    refine hK _ ?_
    clear hK K
  apply relWalk_ex rfl ?o27 (fun K hK => ?n27)
  case o27 =>
    intro W hC hF
    obtain ⟨q0, q1, q2, q3, q4⟩ := lq5 hC.1
    go_simp
    all_goals exact ⟨Below.refl _ _, rfl⟩
  case' n27 =>
    go_simp
    refine hK _ ?_
    clear hK K
  apply relWalk_exg ?o28 (fun K hK => ?n28)
  case o28 =>
    intro W hC hF
    first | exact relOp_off rfl rfl rfl rfl | exact relOp_none rfl rfl rfl | skip
    all_goals
      refine relOp_on rfl rfl ?_
      obtain ⟨q0, q1, q2, q3, q4⟩ := lq5 hC.1
      go_simp
      all_goals exact ⟨Below.refl _ _, rfl⟩
  case' n28 =>
    go_simp
    refine hK _ ?_
    clear hK K
  apply relWalk_exg ?o29 (fun K hK => ?n29)
  case o29 =>
    intro W hC hF
    first | exact relOp_off rfl rfl rfl rfl | exact relOp_none rfl rfl rfl | skip
    all_goals
      refine relOp_on rfl rfl ?_
      obtain ⟨q0, q1, q2, q3, q4⟩ := lq5 hC.1
      go_simp
      all_goals exact ⟨Below.refl _ _, rfl⟩
  case' n29 =>
    go_simp
    refine hK _ ?_
    clear hK K
  apply relWalk_exg ?o30 (fun K hK => ?n30)
  case o30 =>
    intro W hC hF
    first | exact relOp_off rfl rfl rfl rfl | exact relOp_none rfl rfl rfl | skip
    all_goals
      refine relOp_on rfl rfl ?_
      obtain ⟨q0, q1, q2, q3, q4⟩ := lq5 hC.1
      go_simp
      all_goals exact ⟨Below.refl _ _, rfl⟩
  case' n30 =>
    go_simp
    refine hK _ ?_
    clear hK K
  apply relWalk_exg ?o31 (fun K hK => ?n31)
  case o31 =>
    intro W hC hF
    first | exact relOp_off rfl rfl rfl rfl | exact relOp_none rfl rfl rfl | skip
    all_goals
      refine relOp_on rfl rfl ?_
      obtain ⟨q0, q1, q2, q3, q4⟩ := lq5 hC.1
      go_simp
      all_goals exact ⟨Below.refl _ _, rfl⟩
  case' n31 =>
    go_simp
    refine hK _ ?_
    clear hK K
  apply relWalk_exg ?o32 (fun K hK => ?n32)
  case o32 =>
    intro W hC hF
    first | exact relOp_off rfl rfl rfl rfl | exact relOp_none rfl rfl rfl | skip
    all_goals
      refine relOp_on rfl rfl ?_
      obtain ⟨q0, q1, q2, q3, q4⟩ := lq5 hC.1
      go_simp
      all_goals exact ⟨Below.refl _ _, rfl⟩
  case' n32 =>
    go_simp
    refine hK _ ?_
    clear hK K
  apply relWalk_exg ?o33 (fun K hK => ?n33)
  case o33 =>
    intro W hC hF
    first | exact relOp_off rfl rfl rfl rfl | exact relOp_none rfl rfl rfl | skip
    all_goals
      refine relOp_on rfl rfl ?_
      obtain ⟨q0, q1, q2, q3, q4⟩ := lq5 hC.1
      go_simp
      all_goals exact ⟨Below.refl _ _, rfl⟩
  case' n33 =>
    go_simp
    refine hK _ ?_
    clear hK K
  apply relWalk_exg ?o34 (fun K hK => ?n34)
  case o34 =>
    intro W hC hF
    first | exact relOp_off rfl rfl rfl rfl | exact relOp_none rfl rfl rfl | skip
    all_goals
      refine relOp_on rfl rfl ?_
      obtain ⟨q0, q1, q2, q3, q4⟩ := lq5 hC.1
      go_simp
      all_goals exact ⟨Below.refl _ _, rfl⟩
  case' n34 =>
    go_simp
    refine hK _ ?_
    clear hK K
  apply relWalk_exg ?o35 (fun K hK => ?n35)
  case o35 =>
    intro W hC hF
    first | exact relOp_off rfl rfl rfl rfl | exact relOp_none rfl rfl rfl | skip
    all_goals
      refine relOp_on rfl rfl ?_
      obtain ⟨q0, q1, q2, q3, q4⟩ := lq5 hC.1
      go_simp
      all_goals exact ⟨Below.refl _ _, rfl⟩
  case' n35 =>
    go_simp
    refine hK _ ?_
    clear hK K
  apply relWalk_ex rfl ?o36 (fun K hK => ?n36)
  case o36 =>
    intro W hC hF
    obtain ⟨q0, q1, q2, q3, q4⟩ := lq5 hC.1
    go_simp
    all_goals exact ⟨Below.refl _ _, rfl⟩
  case' n36 =>
    go_simp
    refine hK _ ?_
    clear hK K
  apply relWalk_ex rfl ?o37 (fun K hK => ?n37)
  case o37 =>
    intro W hC hF
    obtain ⟨q0, q1, q2, q3, q4⟩ := lq5 hC.1
    go_simp
    all_goals exact ⟨Below.refl _ _, rfl⟩
  case' n37 =>
    go_simp
    refine hK _ ?_
    clear hK K
  apply relWalk_exg ?o38 (fun K hK => ?n38)
  case o38 =>
    intro W hC hF
    first | exact relOp_off rfl rfl rfl rfl | exact relOp_none rfl rfl rfl | skip
    all_goals
      refine relOp_on rfl rfl ?_
      obtain ⟨q0, q1, q2, q3, q4⟩ := lq5 hC.1
      go_simp
      all_goals exact ⟨Below.refl _ _, rfl⟩
  case' n38 =>
    go_simp
    refine hK _ ?_
    clear hK K
  apply relWalk_exg ?o39 (fun K hK => ?n39)
  case o39 =>
    intro W hC hF
    first | exact relOp_off rfl rfl rfl rfl | exact relOp_none rfl rfl rfl | skip
    all_goals
      refine relOp_on rfl rfl ?_
      obtain ⟨q0, q1, q2, q3, q4⟩ := lq5 hC.1
      go_simp
      all_goals exact ⟨Below.refl _ _, rfl⟩
  case' n39 =>
    go_simp
    refine hK _ ?_
    clear hK K
  apply relWalk_exg ?o40 (fun K hK => ?n40)
  case o40 =>
    intro W hC hF
    first | exact relOp_off rfl rfl rfl rfl | exact relOp_none rfl rfl rfl | skip
    all_goals
      refine relOp_on rfl rfl ?_
      obtain ⟨q0, q1, q2, q3, q4⟩ := lq5 hC.1
      go_simp
      all_goals exact (HF.out W).mono fun e w' ⟨he, hb⟩ => ⟨he, hb⟩
  case' n40 =>
    go_simp
    refine hK _ ?_
    clear hK K
  apply relWalk_ex rfl ?o41 (fun K hK => ?n41)
  case o41 =>
    intro W hC hF
    obtain ⟨q0, q1, q2, q3, q4⟩ := lq5 hC.1
    go_simp
    all_goals exact ⟨Below.refl _ _, rfl⟩
  case' n41 =>
    go_simp
    refine hK _ ?_
    clear hK K
  apply relWalk_end
  intro W hC hF hU
  clear HB1
  have HB2 := Lib.hid hC
  clear hC hU hF
  go_wp2_with fail
  refine (must_yes _ _).mono ?_
  rintro e w3 ⟨rfl, rfl⟩
  have q1 : W.cell? ⟨w.heap.size, 1, none⟩ = some (.int .i64 kd) := HB2.out.1.cell_ rfl
  have q2 : W.cell? ⟨w.heap.size, 2, none⟩ = some (.int .i64 sv) := HB2.out.1.cell_ rfl
  go_wp2_with fail
  refine (HA2.out _ HB2.out.2).mono ?_
  rintro e w4 ⟨rfl, hb4⟩
  have HB4 := Lib.hid (And.intro (HB2.out.1.below hb4 HB2.out.1.lt) (HB2.out.2.trans (hb4.mono HB2.out.2.size)))
  clear hb4 HB2 HA2 q1 q2
  go_wp2_with fail
  refine wp_region_fail 12 10 [[], [], [], [], [], [], [], [], [], []] (fun W => Blk W w.heap.size 31 #[.int .i64 off, .int .i64 kd, .int .i64 sv, .string ⟨#[]⟩, .string sf, .bool is, .int .i64 y, .int .i64 m, .int .i64 d1, .int .i64 d2, .int .i64 d3, .int .i64 h1, .int .i64 h2] ∧ Below w.heap.size w W) (by kernel_rfl) (by kernel_rfl) (by decide) rfl (by kernel_rfl) (⟨HB4.out.1, HB4.out.2.drew⟩) (fun W W' h hb => ⟨h.1.below hb h.1.lt, h.2.trans (hb.mono h.2.size)⟩) ?_
  iterate 10 apply exVal_next
  apply exVal_end
  apply relWalk_ex rfl ?ox0 (fun K hK => ?nx0)
  case ox0 =>
    intro W hC hF
    obtain ⟨q0, q1, q2, q3, q4, q5, q6, q7, q8, q9, q10, q11, q12⟩ := lq13 hC.1
    go_simp
    all_goals exact ⟨Below.refl _ _, rfl⟩
  case' nx0 =>
    go_simp
    refine hK _ ?_
    clear hK K
  apply relWalk_ex rfl ?ox1 (fun K hK => ?nx1)
  case ox1 =>
    intro W hC hF
    obtain ⟨q0, q1, q2, q3, q4, q5, q6, q7, q8, q9, q10, q11, q12⟩ := lq13 hC.1
    go_simp
    all_goals (first | exact ⟨Below.refl _ _, rfl⟩ | (rw [if_neg (by omega)]; exact ⟨Below.refl _ _, rfl⟩))
  case' nx1 =>
    go_simp
    refine hK _ ?_
    clear hK K
  apply relWalk_ex rfl ?ox2 (fun K hK => ?nx2)
  case ox2 =>
    intro W hC hF
    obtain ⟨q0, q1, q2, q3, q4, q5, q6, q7, q8, q9, q10, q11, q12⟩ := lq13 hC.1
    go_simp
    all_goals exact ⟨Below.refl _ _, rfl⟩
  case' nx2 =>
    go_simp
    refine hK _ ?_
    clear hK K
  apply relWalk_ex rfl ?ox3 (fun K hK => ?nx3)
  case ox3 =>
    intro W hC hF
    obtain ⟨q0, q1, q2, q3, q4, q5, q6, q7, q8, q9, q10, q11, q12⟩ := lq13 hC.1
    go_simp
    all_goals (first | exact ⟨Below.refl _ _, rfl⟩ | (rw [if_neg (by omega)]; exact ⟨Below.refl _ _, rfl⟩))
  case' nx3 =>
    go_simp
    refine hK _ ?_
    clear hK K
  apply relWalk_ex rfl ?ox4 (fun K hK => ?nx4)
  case ox4 =>
    intro W hC hF
    obtain ⟨q0, q1, q2, q3, q4, q5, q6, q7, q8, q9, q10, q11, q12⟩ := lq13 hC.1
    go_simp
    all_goals (first | exact ⟨Below.refl _ _, rfl⟩ | (rw [if_neg (by omega)]; exact ⟨Below.refl _ _, rfl⟩))
  case' nx4 =>
    go_simp
    refine hK _ ?_
    clear hK K
  apply relWalk_ex rfl ?ox5 (fun K hK => ?nx5)
  case ox5 =>
    intro W hC hF
    obtain ⟨q0, q1, q2, q3, q4, q5, q6, q7, q8, q9, q10, q11, q12⟩ := lq13 hC.1
    go_simp
    all_goals exact ⟨Below.refl _ _, rfl⟩
  case' nx5 =>
    go_simp
    refine hK _ ?_
    clear hK K
  apply relWalk_ex rfl ?ox6 (fun K hK => ?nx6)
  case ox6 =>
    intro W hC hF
    obtain ⟨q0, q1, q2, q3, q4, q5, q6, q7, q8, q9, q10, q11, q12⟩ := lq13 hC.1
    go_simp
    all_goals exact ⟨Below.refl _ _, rfl⟩
  case' nx6 =>
    go_simp
    refine hK _ ?_
    clear hK K
  apply relWalk_ex rfl ?ox7 (fun K hK => ?nx7)
  case ox7 =>
    intro W hC hF
    obtain ⟨q0, q1, q2, q3, q4, q5, q6, q7, q8, q9, q10, q11, q12⟩ := lq13 hC.1
    go_simp
    all_goals (first | exact ⟨Below.refl _ _, rfl⟩ | (rw [if_neg (by omega)]; exact ⟨Below.refl _ _, rfl⟩))
  case' nx7 =>
    go_simp
    refine hK _ ?_
    clear hK K
  apply relWalk_ex rfl ?ox8 (fun K hK => ?nx8)
  case ox8 =>
    intro W hC hF
    obtain ⟨q0, q1, q2, q3, q4, q5, q6, q7, q8, q9, q10, q11, q12⟩ := lq13 hC.1
    go_simp
    all_goals exact ⟨Below.refl _ _, rfl⟩
  case' nx8 =>
    go_simp
    refine hK _ ?_
    clear hK K
  apply relWalk_ex rfl ?ox9 (fun K hK => ?nx9)
  case ox9 =>
    intro W hC hF
    obtain ⟨q0, q1, q2, q3, q4, q5, q6, q7, q8, q9, q10, q11, q12⟩ := lq13 hC.1
    go_simp
    all_goals exact ⟨Below.refl _ _, rfl⟩
  case' nx9 =>
    go_simp
    refine hK _ ?_
    clear hK K
  apply relWalk_endf
  intro W hC
  refine failOp_at rfl rfl ?_
  go_simp
  exact (HE.out W hC.2).mono fun e w' ⟨he, hb⟩ => ⟨_, he, PanicQ.of fun b hd => ⟨hd, rfl, hC.2.trans (hb.mono hC.2.size)⟩⟩

set_option maxRecDepth 100000 in
set_option maxHeartbeats 1000000 in
theorem line_ef2 (off kd sv : Int) (sn sf : ByteArray) (is : Bool) (y m d1 d2 d3 h1 h2 : Int) (w : World) (ao : ByteArray) (hk : decide (0 ≤ kd) = true) (hk2 : decide (kd ≤ 2) = true) (ha : (kd == 1) = false) (hsv : (sv == 0) = true) (hc : (kd == 2) = true) (hl4 : sn.size ≤ 1000) (HS : Hid (∀ W, Calls Tryz.prog 65 #[.string sn] W fun e w' => e = .returned (.bool true) ∧ Below W.heap.size W w')) (HF : Hid (∀ W, Calls Tryz.prog 49 #[.string sf] W fun e w' => e = .returned (.bool true) ∧ Below W.heap.size W w')) (hl0 : ao.size ≤ 1000) (hl1 : sf.size ≤ 1000) (HE : Hid (∀ W, Below w.heap.size w W → Calls Tryz.prog 66 #[.agg #[.bool is, .int .i64 y, .int .i64 m, .int .i64 d1, .int .i64 d2, .int .i64 d3, .int .i64 h1, .int .i64 h2]] W fun e w' => e = Fails 2 ∧ Below W.heap.size W w'))
    (HA : Hid (∀ W, Below w.heap.size w W → Calls Tryz.prog 64 #[.int .i64 off] W fun e w' => e = .returned (.string ao) ∧ Below W.heap.size W w')) :
    Calls Tryz.prog 27 #[.agg #[.int .i64 off, .int .i64 kd, .int .i64 sv, .string sn, .string sf, .bool is, .int .i64 y, .int .i64 m, .int .i64 d1, .int .i64 d2, .int .i64 d3, .int .i64 h1, .int .i64 h2]] w fun e w' => e = Fails 2 ∧ Below w.heap.size w w' := by
  have hB0 := (Below.refl w.heap.size w).alloc (Nat.le_refl _) (.cells #[.int .i64 off, .int .i64 kd, .int .i64 sv, .string sn, .string sf, .bool is, .int .i64 y, .int .i64 m, .int .i64 d1, .int .i64 d2, .int .i64 d3, .int .i64 h1, .int .i64 h2] 31)
  have HB0 := Lib.hid (And.intro (Blk.new' w 31 #[.int .i64 off, .int .i64 kd, .int .i64 sv, .string sn, .string sf, .bool is, .int .i64 y, .int .i64 m, .int .i64 d1, .int .i64 d2, .int .i64 d3, .int .i64 h1, .int .i64 h2] rfl) hB0)
  clear hB0
  go_enter Tryz.func27, Tryz.ntmps27
  go_wp2_with fail
  refine (HA.out _ HB0.out.2).mono ?_
  rintro e w1 ⟨rfl, hb1⟩
  have HB1 := Lib.hid (And.intro (HB0.out.1.below hb1 HB0.out.1.lt) (HB0.out.2.trans (hb1.mono HB0.out.2.size)))
  clear hb1 HB0 HA
  go_wp2_with fail
  refine wp_region_rels 42 [[], [], [], [], [], [], [], [], [], [], [], [], [], [], [], [], [], [], [], [], [], [], [], [], [], [], [], [], [], [], [], [], [], [], [], [], [], [], [], [], [], []] [Form.val, Form.val, Form.val, Form.val, Form.val, Form.val, Form.val, Form.val, Form.val, Form.val, Form.val, Form.val, Form.val, Form.val, Form.val, Form.val, Form.val, Form.val, Form.val, Form.val, Form.val, Form.val, Form.val, Form.val, Form.val, Form.val, Form.val, Form.val, Form.val, Form.val, Form.val, Form.val, Form.val, Form.val, Form.val, Form.val, Form.val, Form.val, Form.val, Form.val, Form.val, Form.val] (fun W => Blk W w.heap.size 31 #[.int .i64 off, .int .i64 kd, .int .i64 sv, .string sn, .string sf, .bool is, .int .i64 y, .int .i64 m, .int .i64 d1, .int .i64 d2, .int .i64 d3, .int .i64 h1, .int .i64 h2] ∧ Below w.heap.size w W) (by kernel_rfl) (by kernel_rfl) rfl rfl (⟨HB1.out.1, HB1.out.2.drew⟩) (fun W W' h hb => ⟨h.1.below hb h.1.lt, h.2.trans (hb.mono h.2.size)⟩) trivial ?_
  repeat (first | apply exSpec_rel | apply exSpec_new | apply exSpec_val)
  apply relWalk_ex rfl ?o0 (fun K hK => ?n0)
  case o0 =>
    intro W hC hF
    obtain ⟨q0, q1, q2, q3, q4⟩ := lq5 hC.1
    go_simp
    all_goals exact ⟨Below.refl _ _, rfl⟩
  case' n0 =>
    go_simp
    refine hK _ ?_
    clear hK K
  apply relWalk_ex rfl ?o1 (fun K hK => ?n1)
  case o1 =>
    intro W hC hF
    obtain ⟨q0, q1, q2, q3, q4⟩ := lq5 hC.1
    go_simp
    all_goals exact ⟨Below.refl _ _, rfl⟩
  case' n1 =>
    go_simp
    refine hK _ ?_
    clear hK K
  apply relWalk_ex rfl ?o2 (fun K hK => ?n2)
  case o2 =>
    intro W hC hF
    obtain ⟨q0, q1, q2, q3, q4⟩ := lq5 hC.1
    go_simp
    all_goals exact ⟨Below.refl _ _, rfl⟩
  case' n2 =>
    go_simp
    refine hK _ ?_
    clear hK K
  apply relWalk_ex rfl ?o3 (fun K hK => ?n3)
  case o3 =>
    intro W hC hF
    obtain ⟨q0, q1, q2, q3, q4⟩ := lq5 hC.1
    go_simp
    all_goals exact ⟨Below.refl _ _, rfl⟩
  case' n3 =>
    go_simp
    refine hK _ ?_
    clear hK K
  apply relWalk_exg ?o4 (fun K hK => ?n4)
  case o4 =>
    intro W hC hF
    first | exact relOp_off rfl rfl rfl rfl | exact relOp_none rfl rfl rfl | skip
    all_goals
      refine relOp_on rfl rfl ?_
      obtain ⟨q0, q1, q2, q3, q4⟩ := lq5 hC.1
      go_simp
      all_goals exact ⟨Below.refl _ _, rfl⟩
  case' n4 =>
    go_simp
    refine hK _ ?_
    clear hK K
  apply relWalk_exg ?o5 (fun K hK => ?n5)
  case o5 =>
    intro W hC hF
    first | exact relOp_off rfl rfl rfl rfl | exact relOp_none rfl rfl rfl | skip
    all_goals
      refine relOp_on rfl rfl ?_
      obtain ⟨q0, q1, q2, q3, q4⟩ := lq5 hC.1
      go_simp
      all_goals exact ⟨Below.refl _ _, rfl⟩
  case' n5 =>
    go_simp
    refine hK _ ?_
    clear hK K
  apply relWalk_exg ?o6 (fun K hK => ?n6)
  case o6 =>
    intro W hC hF
    first | exact relOp_off rfl rfl rfl rfl | exact relOp_none rfl rfl rfl | skip
    all_goals
      refine relOp_on rfl rfl ?_
      obtain ⟨q0, q1, q2, q3, q4⟩ := lq5 hC.1
      go_simp
      all_goals exact ⟨Below.refl _ _, rfl⟩
  case' n6 =>
    go_simp
    refine hK _ ?_
    clear hK K
  apply relWalk_ex rfl ?o7 (fun K hK => ?n7)
  case o7 =>
    intro W hC hF
    obtain ⟨q0, q1, q2, q3, q4⟩ := lq5 hC.1
    go_simp
    all_goals exact ⟨Below.refl _ _, rfl⟩
  case' n7 =>
    go_simp
    refine hK _ ?_
    clear hK K
  apply relWalk_ex rfl ?o8 (fun K hK => ?n8)
  case o8 =>
    intro W hC hF
    obtain ⟨q0, q1, q2, q3, q4⟩ := lq5 hC.1
    go_simp
    all_goals exact ⟨Below.refl _ _, rfl⟩
  case' n8 =>
    go_simp
    refine hK _ ?_
    clear hK K
  apply relWalk_exg ?o9 (fun K hK => ?n9)
  case o9 =>
    intro W hC hF
    first | exact relOp_off rfl rfl rfl rfl | exact relOp_none rfl rfl rfl | skip
    all_goals
      refine relOp_on rfl rfl ?_
      obtain ⟨q0, q1, q2, q3, q4⟩ := lq5 hC.1
      go_simp
      all_goals exact ⟨Below.refl _ _, rfl⟩
  case' n9 =>
    go_simp
    refine hK _ ?_
    clear hK K
  apply relWalk_exg ?o10 (fun K hK => ?n10)
  case o10 =>
    intro W hC hF
    first | exact relOp_off rfl rfl rfl rfl | exact relOp_none rfl rfl rfl | skip
    all_goals
      refine relOp_on rfl rfl ?_
      obtain ⟨q0, q1, q2, q3, q4⟩ := lq5 hC.1
      go_simp
      all_goals exact ⟨Below.refl _ _, rfl⟩
  case' n10 =>
    go_simp
    refine hK _ ?_
    clear hK K
  apply relWalk_exg ?o11 (fun K hK => ?n11)
  case o11 =>
    intro W hC hF
    first | exact relOp_off rfl rfl rfl rfl | exact relOp_none rfl rfl rfl | skip
    all_goals
      refine relOp_on rfl rfl ?_
      obtain ⟨q0, q1, q2, q3, q4⟩ := lq5 hC.1
      go_simp
      all_goals exact ⟨Below.refl _ _, rfl⟩
  case' n11 =>
    go_simp
    refine hK _ ?_
    clear hK K
  apply relWalk_exg ?o12 (fun K hK => ?n12)
  case o12 =>
    intro W hC hF
    first | exact relOp_off rfl rfl rfl rfl | exact relOp_none rfl rfl rfl | skip
    all_goals
      refine relOp_on rfl rfl ?_
      obtain ⟨q0, q1, q2, q3, q4⟩ := lq5 hC.1
      go_simp
      all_goals exact ⟨Below.refl _ _, rfl⟩
  case' n12 =>
    go_simp
    refine hK _ ?_
    clear hK K
  apply relWalk_exg ?o13 (fun K hK => ?n13)
  case o13 =>
    intro W hC hF
    first | exact relOp_off rfl rfl rfl rfl | exact relOp_none rfl rfl rfl | skip
    all_goals
      refine relOp_on rfl rfl ?_
      obtain ⟨q0, q1, q2, q3, q4⟩ := lq5 hC.1
      go_simp
      all_goals exact ⟨Below.refl _ _, rfl⟩
  case' n13 =>
    go_simp
    refine hK _ ?_
    clear hK K
  apply relWalk_exg ?o14 (fun K hK => ?n14)
  case o14 =>
    intro W hC hF
    first | exact relOp_off rfl rfl rfl rfl | exact relOp_none rfl rfl rfl | skip
    all_goals
      refine relOp_on rfl rfl ?_
      obtain ⟨q0, q1, q2, q3, q4⟩ := lq5 hC.1
      go_simp
      all_goals exact ⟨Below.refl _ _, rfl⟩
  case' n14 =>
    go_simp
    refine hK _ ?_
    clear hK K
  apply relWalk_exg ?o15 (fun K hK => ?n15)
  case o15 =>
    intro W hC hF
    first | exact relOp_off rfl rfl rfl rfl | exact relOp_none rfl rfl rfl | skip
    all_goals
      refine relOp_on rfl rfl ?_
      obtain ⟨q0, q1, q2, q3, q4⟩ := lq5 hC.1
      go_simp
      all_goals exact ⟨Below.refl _ _, rfl⟩
  case' n15 =>
    go_simp
    refine hK _ ?_
    clear hK K
  apply relWalk_exg ?o16 (fun K hK => ?n16)
  case o16 =>
    intro W hC hF
    first | exact relOp_off rfl rfl rfl rfl | exact relOp_none rfl rfl rfl | skip
    all_goals
      refine relOp_on rfl rfl ?_
      obtain ⟨q0, q1, q2, q3, q4⟩ := lq5 hC.1
      go_simp
      all_goals exact ⟨Below.refl _ _, rfl⟩
  case' n16 =>
    go_simp
    refine hK _ ?_
    clear hK K
  apply relWalk_ex rfl ?o17 (fun K hK => ?n17)
  case o17 =>
    intro W hC hF
    obtain ⟨q0, q1, q2, q3, q4⟩ := lq5 hC.1
    go_simp
    all_goals exact ⟨Below.refl _ _, rfl⟩
  case' n17 =>
    go_simp
    refine hK _ ?_
    clear hK K
  apply relWalk_ex rfl ?o18 (fun K hK => ?n18)
  case o18 =>
    intro W hC hF
    obtain ⟨q0, q1, q2, q3, q4⟩ := lq5 hC.1
    go_simp
    all_goals exact ⟨Below.refl _ _, rfl⟩
  case' n18 =>
    go_simp
    refine hK _ ?_
    clear hK K
  apply relWalk_exg ?o19 (fun K hK => ?n19)
  case o19 =>
    intro W hC hF
    first | exact relOp_off rfl rfl rfl rfl | exact relOp_none rfl rfl rfl | skip
    all_goals
      refine relOp_on rfl rfl ?_
      obtain ⟨q0, q1, q2, q3, q4⟩ := lq5 hC.1
      go_simp
      all_goals exact ⟨Below.refl _ _, rfl⟩
  case' n19 =>
    go_simp
    refine hK _ ?_
    clear hK K
  apply relWalk_exg ?o20 (fun K hK => ?n20)
  case o20 =>
    intro W hC hF
    first | exact relOp_off rfl rfl rfl rfl | exact relOp_none rfl rfl rfl | skip
    all_goals
      refine relOp_on rfl rfl ?_
      obtain ⟨q0, q1, q2, q3, q4⟩ := lq5 hC.1
      go_simp
      all_goals exact ⟨Below.refl _ _, rfl⟩
  case' n20 =>
    go_simp
    refine hK _ ?_
    clear hK K
  apply relWalk_exg ?o21 (fun K hK => ?n21)
  case o21 =>
    intro W hC hF
    first | exact relOp_off rfl rfl rfl rfl | exact relOp_none rfl rfl rfl | skip
    all_goals
      refine relOp_on rfl rfl ?_
      obtain ⟨q0, q1, q2, q3, q4⟩ := lq5 hC.1
      go_simp
      all_goals exact ⟨Below.refl _ _, rfl⟩
  case' n21 =>
    go_simp
    refine hK _ ?_
    clear hK K
  apply relWalk_exg ?o22 (fun K hK => ?n22)
  case o22 =>
    intro W hC hF
    first | exact relOp_off rfl rfl rfl rfl | exact relOp_none rfl rfl rfl | skip
    all_goals
      refine relOp_on rfl rfl ?_
      obtain ⟨q0, q1, q2, q3, q4⟩ := lq5 hC.1
      go_simp
      all_goals exact ⟨Below.refl _ _, rfl⟩
  case' n22 =>
    go_simp
    refine hK _ ?_
    clear hK K
  apply relWalk_exg ?o23 (fun K hK => ?n23)
  case o23 =>
    intro W hC hF
    first | exact relOp_off rfl rfl rfl rfl | exact relOp_none rfl rfl rfl | skip
    all_goals
      refine relOp_on rfl rfl ?_
      obtain ⟨q0, q1, q2, q3, q4⟩ := lq5 hC.1
      go_simp
      all_goals exact ⟨Below.refl _ _, rfl⟩
  case' n23 =>
    go_simp
    refine hK _ ?_
    clear hK K
  apply relWalk_exg ?o24 (fun K hK => ?n24)
  case o24 =>
    intro W hC hF
    first | exact relOp_off rfl rfl rfl rfl | exact relOp_none rfl rfl rfl | skip
    all_goals
      refine relOp_on rfl rfl ?_
      obtain ⟨q0, q1, q2, q3, q4⟩ := lq5 hC.1
      go_simp
      all_goals exact (HS.out W).mono fun e w' ⟨he, hb⟩ => ⟨he, hb⟩
  case' n24 =>
    go_simp
    refine hK _ ?_
    clear hK K
  apply relWalk_exg ?o25 (fun K hK => ?n25)
  case o25 =>
    intro W hC hF
    first | exact relOp_off rfl rfl rfl rfl | exact relOp_none rfl rfl rfl | skip
    all_goals
      refine relOp_on rfl rfl ?_
      obtain ⟨q0, q1, q2, q3, q4⟩ := lq5 hC.1
      go_simp
      all_goals exact ⟨Below.refl _ _, rfl⟩
  case' n25 =>
    go_simp
    refine hK _ ?_
    clear hK K
  apply relWalk_ex rfl ?o26 (fun K hK => ?n26)
  case o26 =>
    intro W hC hF
    obtain ⟨q0, q1, q2, q3, q4⟩ := lq5 hC.1
    go_simp
    all_goals exact ⟨Below.refl _ _, rfl⟩
  case' n26 =>
    go_simp
    refine hK _ ?_
    clear hK K
  apply relWalk_ex rfl ?o27 (fun K hK => ?n27)
  case o27 =>
    intro W hC hF
    obtain ⟨q0, q1, q2, q3, q4⟩ := lq5 hC.1
    go_simp
    all_goals exact ⟨Below.refl _ _, rfl⟩
  case' n27 =>
    go_simp
    refine hK _ ?_
    clear hK K
  apply relWalk_exg ?o28 (fun K hK => ?n28)
  case o28 =>
    intro W hC hF
    first | exact relOp_off rfl rfl rfl rfl | exact relOp_none rfl rfl rfl | skip
    all_goals
      refine relOp_on rfl rfl ?_
      obtain ⟨q0, q1, q2, q3, q4⟩ := lq5 hC.1
      go_simp
      all_goals exact ⟨Below.refl _ _, rfl⟩
  case' n28 =>
    go_simp
    refine hK _ ?_
    clear hK K
  apply relWalk_exg ?o29 (fun K hK => ?n29)
  case o29 =>
    intro W hC hF
    first | exact relOp_off rfl rfl rfl rfl | exact relOp_none rfl rfl rfl | skip
    all_goals
      refine relOp_on rfl rfl ?_
      obtain ⟨q0, q1, q2, q3, q4⟩ := lq5 hC.1
      go_simp
      all_goals exact ⟨Below.refl _ _, rfl⟩
  case' n29 =>
    go_simp
    refine hK _ ?_
    clear hK K
  apply relWalk_exg ?o30 (fun K hK => ?n30)
  case o30 =>
    intro W hC hF
    first | exact relOp_off rfl rfl rfl rfl | exact relOp_none rfl rfl rfl | skip
    all_goals
      refine relOp_on rfl rfl ?_
      obtain ⟨q0, q1, q2, q3, q4⟩ := lq5 hC.1
      go_simp
      all_goals exact ⟨Below.refl _ _, rfl⟩
  case' n30 =>
    go_simp
    refine hK _ ?_
    clear hK K
  apply relWalk_exg ?o31 (fun K hK => ?n31)
  case o31 =>
    intro W hC hF
    first | exact relOp_off rfl rfl rfl rfl | exact relOp_none rfl rfl rfl | skip
    all_goals
      refine relOp_on rfl rfl ?_
      obtain ⟨q0, q1, q2, q3, q4⟩ := lq5 hC.1
      go_simp
      all_goals exact ⟨Below.refl _ _, rfl⟩
  case' n31 =>
    go_simp
    refine hK _ ?_
    clear hK K
  apply relWalk_exg ?o32 (fun K hK => ?n32)
  case o32 =>
    intro W hC hF
    first | exact relOp_off rfl rfl rfl rfl | exact relOp_none rfl rfl rfl | skip
    all_goals
      refine relOp_on rfl rfl ?_
      obtain ⟨q0, q1, q2, q3, q4⟩ := lq5 hC.1
      go_simp
      all_goals exact ⟨Below.refl _ _, rfl⟩
  case' n32 =>
    go_simp
    refine hK _ ?_
    clear hK K
  apply relWalk_exg ?o33 (fun K hK => ?n33)
  case o33 =>
    intro W hC hF
    first | exact relOp_off rfl rfl rfl rfl | exact relOp_none rfl rfl rfl | skip
    all_goals
      refine relOp_on rfl rfl ?_
      obtain ⟨q0, q1, q2, q3, q4⟩ := lq5 hC.1
      go_simp
      all_goals exact ⟨Below.refl _ _, rfl⟩
  case' n33 =>
    go_simp
    refine hK _ ?_
    clear hK K
  apply relWalk_exg ?o34 (fun K hK => ?n34)
  case o34 =>
    intro W hC hF
    first | exact relOp_off rfl rfl rfl rfl | exact relOp_none rfl rfl rfl | skip
    all_goals
      refine relOp_on rfl rfl ?_
      obtain ⟨q0, q1, q2, q3, q4⟩ := lq5 hC.1
      go_simp
      all_goals exact ⟨Below.refl _ _, rfl⟩
  case' n34 =>
    go_simp
    refine hK _ ?_
    clear hK K
  apply relWalk_exg ?o35 (fun K hK => ?n35)
  case o35 =>
    intro W hC hF
    first | exact relOp_off rfl rfl rfl rfl | exact relOp_none rfl rfl rfl | skip
    all_goals
      refine relOp_on rfl rfl ?_
      obtain ⟨q0, q1, q2, q3, q4⟩ := lq5 hC.1
      go_simp
      all_goals exact ⟨Below.refl _ _, rfl⟩
  case' n35 =>
    go_simp
    refine hK _ ?_
    clear hK K
  apply relWalk_ex rfl ?o36 (fun K hK => ?n36)
  case o36 =>
    intro W hC hF
    obtain ⟨q0, q1, q2, q3, q4⟩ := lq5 hC.1
    go_simp
    all_goals exact ⟨Below.refl _ _, rfl⟩
  case' n36 =>
    go_simp
    refine hK _ ?_
    clear hK K
  apply relWalk_ex rfl ?o37 (fun K hK => ?n37)
  case o37 =>
    intro W hC hF
    obtain ⟨q0, q1, q2, q3, q4⟩ := lq5 hC.1
    go_simp
    all_goals exact ⟨Below.refl _ _, rfl⟩
  case' n37 =>
    go_simp
    refine hK _ ?_
    clear hK K
  apply relWalk_exg ?o38 (fun K hK => ?n38)
  case o38 =>
    intro W hC hF
    first | exact relOp_off rfl rfl rfl rfl | exact relOp_none rfl rfl rfl | skip
    all_goals
      refine relOp_on rfl rfl ?_
      obtain ⟨q0, q1, q2, q3, q4⟩ := lq5 hC.1
      go_simp
      all_goals exact ⟨Below.refl _ _, rfl⟩
  case' n38 =>
    go_simp
    refine hK _ ?_
    clear hK K
  apply relWalk_exg ?o39 (fun K hK => ?n39)
  case o39 =>
    intro W hC hF
    first | exact relOp_off rfl rfl rfl rfl | exact relOp_none rfl rfl rfl | skip
    all_goals
      refine relOp_on rfl rfl ?_
      obtain ⟨q0, q1, q2, q3, q4⟩ := lq5 hC.1
      go_simp
      all_goals exact ⟨Below.refl _ _, rfl⟩
  case' n39 =>
    go_simp
    refine hK _ ?_
    clear hK K
  apply relWalk_exg ?o40 (fun K hK => ?n40)
  case o40 =>
    intro W hC hF
    first | exact relOp_off rfl rfl rfl rfl | exact relOp_none rfl rfl rfl | skip
    all_goals
      refine relOp_on rfl rfl ?_
      obtain ⟨q0, q1, q2, q3, q4⟩ := lq5 hC.1
      go_simp
      all_goals exact (HF.out W).mono fun e w' ⟨he, hb⟩ => ⟨he, hb⟩
  case' n40 =>
    go_simp
    refine hK _ ?_
    clear hK K
  apply relWalk_ex rfl ?o41 (fun K hK => ?n41)
  case o41 =>
    intro W hC hF
    obtain ⟨q0, q1, q2, q3, q4⟩ := lq5 hC.1
    go_simp
    all_goals exact ⟨Below.refl _ _, rfl⟩
  case' n41 =>
    go_simp
    refine hK _ ?_
    clear hK K
  apply relWalk_end
  intro W hC hF hU
  clear HB1
  have HB2 := Lib.hid hC
  clear hC hU hF
  go_wp2_with fail
  refine (must_yes _ _).mono ?_
  rintro e w3 ⟨rfl, rfl⟩
  have q1 : W.cell? ⟨w.heap.size, 1, none⟩ = some (.int .i64 kd) := HB2.out.1.cell_ rfl
  have q3 : W.cell? ⟨w.heap.size, 3, none⟩ = some (.string sn) := HB2.out.1.cell_ rfl
  go_wp2_with fail
  clear q1 q3
  refine wp_region_fail 12 10 [[], [], [], [], [], [], [], [], [], []] (fun W => Blk W w.heap.size 31 #[.int .i64 off, .int .i64 kd, .int .i64 sv, .string sn, .string sf, .bool is, .int .i64 y, .int .i64 m, .int .i64 d1, .int .i64 d2, .int .i64 d3, .int .i64 h1, .int .i64 h2] ∧ Below w.heap.size w W) (by kernel_rfl) (by kernel_rfl) (by decide) rfl (by kernel_rfl) (⟨HB2.out.1, HB2.out.2.drew⟩) (fun W W' h hb => ⟨h.1.below hb h.1.lt, h.2.trans (hb.mono h.2.size)⟩) ?_
  iterate 10 apply exVal_next
  apply exVal_end
  apply relWalk_ex rfl ?ox0 (fun K hK => ?nx0)
  case ox0 =>
    intro W hC hF
    obtain ⟨q0, q1, q2, q3, q4, q5, q6, q7, q8, q9, q10, q11, q12⟩ := lq13 hC.1
    go_simp
    all_goals exact ⟨Below.refl _ _, rfl⟩
  case' nx0 =>
    go_simp
    refine hK _ ?_
    clear hK K
  apply relWalk_ex rfl ?ox1 (fun K hK => ?nx1)
  case ox1 =>
    intro W hC hF
    obtain ⟨q0, q1, q2, q3, q4, q5, q6, q7, q8, q9, q10, q11, q12⟩ := lq13 hC.1
    go_simp
    all_goals (first | exact ⟨Below.refl _ _, rfl⟩ | (rw [if_neg (by omega)]; exact ⟨Below.refl _ _, rfl⟩))
  case' nx1 =>
    go_simp
    refine hK _ ?_
    clear hK K
  apply relWalk_ex rfl ?ox2 (fun K hK => ?nx2)
  case ox2 =>
    intro W hC hF
    obtain ⟨q0, q1, q2, q3, q4, q5, q6, q7, q8, q9, q10, q11, q12⟩ := lq13 hC.1
    go_simp
    all_goals exact ⟨Below.refl _ _, rfl⟩
  case' nx2 =>
    go_simp
    refine hK _ ?_
    clear hK K
  apply relWalk_ex rfl ?ox3 (fun K hK => ?nx3)
  case ox3 =>
    intro W hC hF
    obtain ⟨q0, q1, q2, q3, q4, q5, q6, q7, q8, q9, q10, q11, q12⟩ := lq13 hC.1
    go_simp
    all_goals (first | exact ⟨Below.refl _ _, rfl⟩ | (rw [if_neg (by omega)]; exact ⟨Below.refl _ _, rfl⟩))
  case' nx3 =>
    go_simp
    refine hK _ ?_
    clear hK K
  apply relWalk_ex rfl ?ox4 (fun K hK => ?nx4)
  case ox4 =>
    intro W hC hF
    obtain ⟨q0, q1, q2, q3, q4, q5, q6, q7, q8, q9, q10, q11, q12⟩ := lq13 hC.1
    go_simp
    all_goals (first | exact ⟨Below.refl _ _, rfl⟩ | (rw [if_neg (by omega)]; exact ⟨Below.refl _ _, rfl⟩))
  case' nx4 =>
    go_simp
    refine hK _ ?_
    clear hK K
  apply relWalk_ex rfl ?ox5 (fun K hK => ?nx5)
  case ox5 =>
    intro W hC hF
    obtain ⟨q0, q1, q2, q3, q4, q5, q6, q7, q8, q9, q10, q11, q12⟩ := lq13 hC.1
    go_simp
    all_goals exact ⟨Below.refl _ _, rfl⟩
  case' nx5 =>
    go_simp
    refine hK _ ?_
    clear hK K
  apply relWalk_ex rfl ?ox6 (fun K hK => ?nx6)
  case ox6 =>
    intro W hC hF
    obtain ⟨q0, q1, q2, q3, q4, q5, q6, q7, q8, q9, q10, q11, q12⟩ := lq13 hC.1
    go_simp
    all_goals exact ⟨Below.refl _ _, rfl⟩
  case' nx6 =>
    go_simp
    refine hK _ ?_
    clear hK K
  apply relWalk_ex rfl ?ox7 (fun K hK => ?nx7)
  case ox7 =>
    intro W hC hF
    obtain ⟨q0, q1, q2, q3, q4, q5, q6, q7, q8, q9, q10, q11, q12⟩ := lq13 hC.1
    go_simp
    all_goals (first | exact ⟨Below.refl _ _, rfl⟩ | (rw [if_neg (by omega)]; exact ⟨Below.refl _ _, rfl⟩))
  case' nx7 =>
    go_simp
    refine hK _ ?_
    clear hK K
  apply relWalk_ex rfl ?ox8 (fun K hK => ?nx8)
  case ox8 =>
    intro W hC hF
    obtain ⟨q0, q1, q2, q3, q4, q5, q6, q7, q8, q9, q10, q11, q12⟩ := lq13 hC.1
    go_simp
    all_goals exact ⟨Below.refl _ _, rfl⟩
  case' nx8 =>
    go_simp
    refine hK _ ?_
    clear hK K
  apply relWalk_ex rfl ?ox9 (fun K hK => ?nx9)
  case ox9 =>
    intro W hC hF
    obtain ⟨q0, q1, q2, q3, q4, q5, q6, q7, q8, q9, q10, q11, q12⟩ := lq13 hC.1
    go_simp
    all_goals exact ⟨Below.refl _ _, rfl⟩
  case' nx9 =>
    go_simp
    refine hK _ ?_
    clear hK K
  apply relWalk_endf
  intro W hC
  refine failOp_at rfl rfl ?_
  go_simp
  exact (HE.out W hC.2).mono fun e w' ⟨he, hb⟩ => ⟨_, he, PanicQ.of fun b hd => ⟨hd, rfl, hC.2.trans (hb.mono hC.2.size)⟩⟩

end Go.Proofs.YtbdmieelokmhiaaGreatDoor
