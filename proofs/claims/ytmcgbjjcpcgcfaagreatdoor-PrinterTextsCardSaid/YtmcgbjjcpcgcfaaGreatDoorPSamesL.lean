/-
  PrinterSames of the law of layer 14: what the call returns.
-/
import Derived.Test.YtmcgbjjcpcgcfaaGreatDoorPWork
import Derived.Test.YtmcgbjjcpcgcfaaGreatDoorPFew
import Derived.Test.YtmcgbjjcpcgcfaaGreatDoorRefSame
set_option linter.unusedVariables false
namespace Go.Proofs.YtmcgbjjcpcgcfaaGreatDoor
open Go.RowKit Go.Shelf

theorem SrcSm.ln {s : SourceP} (h : SrcSm s) : SrcLn s := ⟨Nat.le_trans h.n1 (by decide), Nat.le_trans h.n2 (by decide), Nat.le_trans h.n3 (by decide), Nat.le_trans h.n4 (by decide), fun z hz => Nat.le_trans (h.zones z hz).2.1 (by decide)⟩
theorem few_src {s : SourceP} {v : Value} {W : World} (h : SrcV s v W) : Calls Tryz.prog 8 #[v] W fun e w' => FewR s e ∧ Below W.heap.size W w' := by
  obtain ⟨r, z, l, h, zs, rfl, k⟩ := h
  exact few_any _ _ _ _ _ _ _ k
theorem r14same_src {s s' : SourceP} {v v' : Value} {W : World} (h1 : SrcV s v W) (h2 : SrcV s' v' W) (n1 : SrcLn s) (n2 : SrcLn s') : Calls Tryz.prog 13 #[v, v'] W fun e w' => e = .returned (.bool (decide (s = s'))) ∧ Below W.heap.size W w' := by
  obtain ⟨r, z, l, h, zs, rfl, k⟩ := h1
  obtain ⟨r', z', l', h', zs', rfl, k'⟩ := h2
  exact r14same_any _ _ _ _ _ _ _ _ _ _ _ _ _ k k' n1 n2
def S2 (w : World) (s s' : SourceP) (A B : Array Value) (W : World) : Prop := Blk W w.heap.size 27 A ∧ Blk W (w.heap.size + 1) 27 B ∧ SrcV s (.agg A) W ∧ SrcV s' (.agg B) W ∧ Below w.heap.size w W
theorem S2.below {w W W' : World} {s s' : SourceP} {A B : Array Value} (h : S2 w s s' A B W) (hb : Below W.heap.size W W') : S2 w s s' A B W' := ⟨h.1.below hb h.1.lt, h.2.1.below hb h.2.1.lt, h.2.2.1.below hb, h.2.2.2.1.below hb, h.2.2.2.2.trans (hb.mono h.2.2.2.2.size)⟩
def S3 (w : World) (s s' : SourceP) (A B C : Array Value) (g : Nat) (W : World) : Prop := S2 w s s' A B W ∧ Blk W g 27 C ∧ SrcV s (.agg C) W
theorem S3.below {w W W' : World} {s s' : SourceP} {A B C : Array Value} {g : Nat} (h : S3 w s s' A B C g W) (hb : Below W.heap.size W W') : S3 w s s' A B C g W' := ⟨h.1.below hb, h.2.1.below hb h.2.1.lt, h.2.2.below hb⟩
theorem srcv_slices {s : SourceP} {v : Value} {W : World} (h : SrcV s v W) : ∃ p1 n1 c1 p2 n2 c2 p3 n3 c3 p4 n4 c4, v = .agg #[.slice p1 n1 c1, .slice p2 n2 c2, .slice p3 n3 c3, .slice p4 n4 c4] := by
  obtain ⟨r, z, l, h, zs, rfl, k⟩ := h
  obtain ⟨p1, c1, rfl⟩ := k.1.slice
  obtain ⟨p2, c2, rfl⟩ := k.2.1.slice
  obtain ⟨p3, c3, rfl⟩ := k.2.2.2.2.1.slice
  obtain ⟨p4, c4, rfl⟩ := k.2.2.2.2.2.slice
  exact ⟨_, _, _, _, _, _, _, _, _, _, _, _, rfl⟩

set_option maxRecDepth 100000 in
set_option maxHeartbeats 2000000 in
theorem psames_any (va vb : Value) (s s' : SourceP) (w : World) (ha : SrcV s va w) (hb : SrcV s' vb w) (hT : ETabs w) (hR : RTabs w) :
    Calls Tryz.prog 4 #[va, vb] w fun e w' => e = .returned (.bool true) ∧ Below w.heap.size w w' := by
  have HW := Lib.hid (fun W (hW : Below w.heap.size w W) => pworks_any W (hT.below hW) (hR.below hW))
  have HFe := Lib.hid (fun s v W (h : SrcV s v W) => few_src h)
  obtain ⟨pa1, na1, ca1, pa2, na2, ca2, pa3, na3, ca3, pa4, na4, ca4, rfl⟩ := srcv_slices ha
  obtain ⟨pb1, nb1, cb1, pb2, nb2, cb2, pb3, nb3, cb3, pb4, nb4, cb4, rfl⟩ := srcv_slices hb
  have hbA : Below w.heap.size w ((w.alloc (.cells #[.slice pa1 na1 ca1, .slice pa2 na2 ca2, .slice pa3 na3 ca3, .slice pa4 na4 ca4] 27)).alloc (.cells #[.slice pb1 nb1 cb1, .slice pb2 nb2 cb2, .slice pb3 nb3 cb3, .slice pb4 nb4 cb4] 27)) := ((Below.refl _ _).alloc (Nat.le_refl _) _).alloc (by simp) _
  have HS := Lib.hid (show S2 w s s' #[.slice pa1 na1 ca1, .slice pa2 na2 ca2, .slice pa3 na3 ca3, .slice pa4 na4 ca4] #[.slice pb1 nb1 cb1, .slice pb2 nb2 cb2, .slice pb3 nb3 cb3, .slice pb4 nb4 cb4] ((w.alloc (.cells #[.slice pa1 na1 ca1, .slice pa2 na2 ca2, .slice pa3 na3 ca3, .slice pa4 na4 ca4] 27)).alloc (.cells #[.slice pb1 nb1 cb1, .slice pb2 nb2 cb2, .slice pb3 nb3 cb3, .slice pb4 nb4 cb4] 27)) from ⟨(Blk.new' _ _ _ rfl).alloc _, Blk.new' _ _ _ (by simp), ha.below hbA, hb.below hbA, hbA⟩)
  clear ha hb hT hR hbA
  go_enter Tryz.func4, Tryz.ntmps4
  go_upto_region 1 with fail
  generalize (w.alloc (.cells #[.slice pa1 na1 ca1, .slice pa2 na2 ca2, .slice pa3 na3 ca3, .slice pa4 na4 ca4] 27)).alloc (.cells #[.slice pb1 nb1 cb1, .slice pb2 nb2 cb2, .slice pb3 nb3 cb3, .slice pb4 nb4 cb4] 27) = w0 at *
  have a0 := HS.out.1.cell_ (i := 0) rfl
  have a1 := HS.out.1.cell_ (i := 1) rfl
  have a2 := HS.out.1.cell_ (i := 2) rfl
  have a3 := HS.out.1.cell_ (i := 3) rfl
  go_wp2_with fail
  refine (HFe.out s _ _ HS.out.2.2.1).mono ?_
  rintro e w1 ⟨⟨b, rfl, hb1⟩, hbl⟩
  have HS1 := Lib.hid (HS.out.below hbl)
  have HB1 := Lib.hid hb1
  clear hbl a0 a1 a2 a3 HS hb1
  cases b with
  | false =>
    go_wp2_with fail
    refine (HW.out _ HS1.out.2.2.2.2).mono ?_
    rintro e w2 ⟨rfl, hbl⟩
    have HS2 := Lib.hid (HS1.out.below hbl)
    clear hbl
    go_wp2_with fail
    go_ret
    exact ⟨rfl, HS2.out.2.2.2.2⟩
  | true =>
  have a0 := HS1.out.2.1.cell_ (i := 0) rfl
  have a1 := HS1.out.2.1.cell_ (i := 1) rfl
  have a2 := HS1.out.2.1.cell_ (i := 2) rfl
  have a3 := HS1.out.2.1.cell_ (i := 3) rfl
  go_wp2_with fail
  refine (HFe.out s' _ _ HS1.out.2.2.2.1).mono ?_
  rintro e w2 ⟨⟨b, rfl, hb2⟩, hbl⟩
  have HS2 := Lib.hid (HS1.out.below hbl)
  have HB2 := Lib.hid hb2
  clear hbl a0 a1 a2 a3 HS1 hb2
  cases b with
  | false =>
    go_wp2_with fail
    refine (HW.out _ HS2.out.2.2.2.2).mono ?_
    rintro e w3 ⟨rfl, hbl⟩
    have HS3 := Lib.hid (HS2.out.below hbl)
    clear hbl
    go_wp2_with fail
    go_ret
    exact ⟨rfl, HS3.out.2.2.2.2⟩
  | true =>
    have n1 := (HB1.out (by trivial)).ln
    have n2 := (HB2.out (by trivial)).ln
    have a0 := HS2.out.1.cell_ (i := 0) rfl
    have a1 := HS2.out.1.cell_ (i := 1) rfl
    have a2 := HS2.out.1.cell_ (i := 2) rfl
    have a3 := HS2.out.1.cell_ (i := 3) rfl
    have HC2 := Lib.hid (copy_src HS2.out.2.2.1 n1)
    have HL1 := Lib.hid n1
    have HL2 := Lib.hid n2
    clear n1 n2 HB1 HB2 HFe
    go_wp2_with fail
    refine HC2.out.mono ?_
    rintro e w3 ⟨⟨v3, rfl, hk3⟩, hbl⟩
    obtain ⟨pc1, nc1, cc1, pc2, nc2, cc2, pc3, nc3, cc3, pc4, nc4, cc4, rfl⟩ := srcv_slices hk3
    have hbC : Below w3.heap.size w3 (w3.alloc (.cells #[.slice pc1 nc1 cc1, .slice pc2 nc2 cc2, .slice pc3 nc3 cc3, .slice pc4 nc4 cc4] 27)) := (Below.refl _ _).alloc (Nat.le_refl _) _
    have HS4 := Lib.hid (show S3 w s s' #[.slice pa1 na1 ca1, .slice pa2 na2 ca2, .slice pa3 na3 ca3, .slice pa4 na4 ca4] #[.slice pb1 nb1 cb1, .slice pb2 nb2 cb2, .slice pb3 nb3 cb3, .slice pb4 nb4 cb4] #[.slice pc1 nc1 cc1, .slice pc2 nc2 cc2, .slice pc3 nc3 cc3, .slice pc4 nc4 cc4] w3.heap.size (w3.alloc (.cells #[.slice pc1 nc1 cc1, .slice pc2 nc2 cc2, .slice pc3 nc3 cc3, .slice pc4 nc4 cc4] 27)) from ⟨(HS2.out.below hbl).below hbC, Blk.new' _ _ _ rfl, hk3.below hbC⟩)
    clear hbl hbC hk3 HS2 HC2 a0 a1 a2 a3
    go_upto_region 4 with fail
    generalize w3.alloc (.cells #[.slice pc1 nc1 cc1, .slice pc2 nc2 cc2, .slice pc3 nc3 cc3, .slice pc4 nc4 cc4] 27) = w4 at *
    generalize w3.heap.size = g at *
    obtain ⟨bz, hbz⟩ : ∃ b, decide (s = s') = b := ⟨_, rfl⟩
    have HSa := Lib.hid (show ∀ W, S3 w s s' #[.slice pa1 na1 ca1, .slice pa2 na2 ca2, .slice pa3 na3 ca3, .slice pa4 na4 ca4] #[.slice pb1 nb1 cb1, .slice pb2 nb2 cb2, .slice pb3 nb3 cb3, .slice pb4 nb4 cb4] #[.slice pc1 nc1 cc1, .slice pc2 nc2 cc2, .slice pc3 nc3 cc3, .slice pc4 nc4 cc4] g W → Calls Tryz.prog 15 #[.agg #[.slice pa1 na1 ca1, .slice pa2 na2 ca2, .slice pa3 na3 ca3, .slice pa4 na4 ca4], .agg #[.slice pb1 nb1 cb1, .slice pb2 nb2 cb2, .slice pb3 nb3 cb3, .slice pb4 nb4 cb4]] W fun e w' => e = .returned (.bool bz) ∧ Below W.heap.size W w' from fun W h => by
      have := same_src h.1.2.2.1 h.1.2.2.2.1 HL1.out HL2.out
      rwa [hbz] at this)
    have HRa := Lib.hid (show ∀ W, S3 w s s' #[.slice pa1 na1 ca1, .slice pa2 na2 ca2, .slice pa3 na3 ca3, .slice pa4 na4 ca4] #[.slice pb1 nb1 cb1, .slice pb2 nb2 cb2, .slice pb3 nb3 cb3, .slice pb4 nb4 cb4] #[.slice pc1 nc1 cc1, .slice pc2 nc2 cc2, .slice pc3 nc3 cc3, .slice pc4 nc4 cc4] g W → Calls Tryz.prog 13 #[.agg #[.slice pa1 na1 ca1, .slice pa2 na2 ca2, .slice pa3 na3 ca3, .slice pa4 na4 ca4], .agg #[.slice pb1 nb1 cb1, .slice pb2 nb2 cb2, .slice pb3 nb3 cb3, .slice pb4 nb4 cb4]] W fun e w' => e = .returned (.bool bz) ∧ Below W.heap.size W w' from fun W h => by
      have := r14same_src h.1.2.2.1 h.1.2.2.2.1 HL1.out HL2.out
      rwa [hbz] at this)
    have HSb := Lib.hid (show ∀ W, S3 w s s' #[.slice pa1 na1 ca1, .slice pa2 na2 ca2, .slice pa3 na3 ca3, .slice pa4 na4 ca4] #[.slice pb1 nb1 cb1, .slice pb2 nb2 cb2, .slice pb3 nb3 cb3, .slice pb4 nb4 cb4] #[.slice pc1 nc1 cc1, .slice pc2 nc2 cc2, .slice pc3 nc3 cc3, .slice pc4 nc4 cc4] g W → Calls Tryz.prog 15 #[.agg #[.slice pa1 na1 ca1, .slice pa2 na2 ca2, .slice pa3 na3 ca3, .slice pa4 na4 ca4], .agg #[.slice pa1 na1 ca1, .slice pa2 na2 ca2, .slice pa3 na3 ca3, .slice pa4 na4 ca4]] W fun e w' => e = .returned (.bool true) ∧ Below W.heap.size W w' from fun W h => by
      have := same_src h.1.2.2.1 h.1.2.2.1 HL1.out HL1.out
      rwa [decide_eq_true rfl] at this)
    have HRb := Lib.hid (show ∀ W, S3 w s s' #[.slice pa1 na1 ca1, .slice pa2 na2 ca2, .slice pa3 na3 ca3, .slice pa4 na4 ca4] #[.slice pb1 nb1 cb1, .slice pb2 nb2 cb2, .slice pb3 nb3 cb3, .slice pb4 nb4 cb4] #[.slice pc1 nc1 cc1, .slice pc2 nc2 cc2, .slice pc3 nc3 cc3, .slice pc4 nc4 cc4] g W → Calls Tryz.prog 13 #[.agg #[.slice pc1 nc1 cc1, .slice pc2 nc2 cc2, .slice pc3 nc3 cc3, .slice pc4 nc4 cc4], .agg #[.slice pa1 na1 ca1, .slice pa2 na2 ca2, .slice pa3 na3 ca3, .slice pa4 na4 ca4]] W fun e w' => e = .returned (.bool true) ∧ Below W.heap.size W w' from fun W h => by
      have := r14same_src h.2.2 h.1.2.2.1 HL1.out HL1.out
      rwa [decide_eq_true rfl] at this)
    clear hbz
    refine wp_region_rels 20 [[], [], [], [], [], [], [], [], [], [], [], [], [], [], [], [], [], [], [], []] [Form.val, Form.val, Form.val, Form.val, Form.val, Form.val, Form.val, Form.val, Form.val, Form.val, Form.val, Form.val, Form.val, Form.val, Form.val, Form.val, Form.val, Form.val, Form.val, Form.val] (fun W => S3 w s s' #[.slice pa1 na1 ca1, .slice pa2 na2 ca2, .slice pa3 na3 ca3, .slice pa4 na4 ca4] #[.slice pb1 nb1 cb1, .slice pb2 nb2 cb2, .slice pb3 nb3 cb3, .slice pb4 nb4 cb4] #[.slice pc1 nc1 cc1, .slice pc2 nc2 cc2, .slice pc3 nc3 cc3, .slice pc4 nc4 cc4] g W) (by kernel_rfl) (by kernel_rfl) rfl rfl (HS4.out.below (Below.refl _ _).drew) (fun W W2 k hb => k.below hb) trivial ?_
    repeat (first | apply exSpec_rel | apply exSpec_new | apply exSpec_val)
    apply relWalk_ex rfl ?o0 (fun K hK => ?n0)
    case o0 =>
      intro W hC hF
      exact relAt_load 27 (.tmp 2) rfl w.heap.size rfl 27 #[.slice pa1 na1 ca1, .slice pa2 na2 ca2, .slice pa3 na3 ca3, .slice pa4 na4 ca4] _ hC.1.1 Tryz.underlying27 rfl (by kernel_rfl)
    case' n0 =>
      go_simp
      refine hK _ ?_
      clear hK K
    apply relWalk_ex rfl ?o1 (fun K hK => ?n1)
    case o1 =>
      intro W hC hF
      exact relAt_load 27 (.tmp 3) rfl (w.heap.size + 1) rfl 27 #[.slice pb1 nb1 cb1, .slice pb2 nb2 cb2, .slice pb3 nb3 cb3, .slice pb4 nb4 cb4] _ hC.1.2.1 Tryz.underlying27 rfl (by kernel_rfl)
    case' n1 =>
      go_simp
      refine hK _ ?_
      clear hK K
    apply relWalk_ex rfl ?o2 (fun K hK => ?n2)
    case o2 =>
      intro W hC hF
      go_simp
      all_goals exact (HSa.out W hC).mono fun e w2 ⟨he, hb⟩ => ⟨he, hb⟩
    case' n2 =>
      go_simp
      refine hK _ ?_
      clear hK K
    apply relWalk_ex rfl ?o3 (fun K hK => ?n3)
    case o3 =>
      intro W hC hF
      exact relAt_load 27 (.tmp 2) rfl w.heap.size rfl 27 #[.slice pa1 na1 ca1, .slice pa2 na2 ca2, .slice pa3 na3 ca3, .slice pa4 na4 ca4] _ hC.1.1 Tryz.underlying27 rfl (by kernel_rfl)
    case' n3 =>
      go_simp
      refine hK _ ?_
      clear hK K
    apply relWalk_ex rfl ?o4 (fun K hK => ?n4)
    case o4 =>
      intro W hC hF
      exact relAt_load 27 (.tmp 3) rfl (w.heap.size + 1) rfl 27 #[.slice pb1 nb1 cb1, .slice pb2 nb2 cb2, .slice pb3 nb3 cb3, .slice pb4 nb4 cb4] _ hC.1.2.1 Tryz.underlying27 rfl (by kernel_rfl)
    case' n4 =>
      go_simp
      refine hK _ ?_
      clear hK K
    apply relWalk_ex rfl ?o5 (fun K hK => ?n5)
    case o5 =>
      intro W hC hF
      go_simp
      all_goals exact (HRa.out W hC).mono fun e w2 ⟨he, hb⟩ => ⟨he, hb⟩
    case' n5 =>
      go_simp
      refine hK _ ?_
      clear hK K
    apply relWalk_ex rfl ?o6 (fun K hK => ?n6)
    case o6 =>
      intro W hC hF
      go_simp
      all_goals exact ⟨Below.refl _ _, rfl⟩
    case' n6 =>
      go_simp
      refine hK _ ?_
      clear hK K
    apply relWalk_ex rfl ?o7 (fun K hK => ?n7)
    case o7 =>
      intro W hC hF
      go_simp
      all_goals exact ⟨Below.refl _ _, rfl⟩
    case' n7 =>
      go_simp
      refine hK _ ?_
      clear hK K
    apply relWalk_exg ?o8 (fun K hK => ?n8)
    case o8 =>
      intro W hC hF
      first | exact relOp_off rfl rfl rfl rfl | exact relOp_none rfl rfl rfl | skip
      all_goals
        refine relOp_on rfl rfl ?_
        exact relAt_load 27 (.tmp 2) rfl w.heap.size rfl 27 #[.slice pa1 na1 ca1, .slice pa2 na2 ca2, .slice pa3 na3 ca3, .slice pa4 na4 ca4] _ hC.1.1 Tryz.underlying27 rfl (by kernel_rfl)
    case' n8 =>
      go_simp
      refine hK _ ?_
      clear hK K
    apply relWalk_exg ?o9 (fun K hK => ?n9)
    case o9 =>
      intro W hC hF
      first | exact relOp_off rfl rfl rfl rfl | exact relOp_none rfl rfl rfl | skip
      all_goals
        refine relOp_on rfl rfl ?_
        exact relAt_load 27 (.tmp 2) rfl w.heap.size rfl 27 #[.slice pa1 na1 ca1, .slice pa2 na2 ca2, .slice pa3 na3 ca3, .slice pa4 na4 ca4] _ hC.1.1 Tryz.underlying27 rfl (by kernel_rfl)
    case' n9 =>
      go_simp
      refine hK _ ?_
      clear hK K
    apply relWalk_exg ?o10 (fun K hK => ?n10)
    case o10 =>
      intro W hC hF
      first | exact relOp_off rfl rfl rfl rfl | exact relOp_none rfl rfl rfl | skip
      all_goals
        refine relOp_on rfl rfl ?_
        go_simp
        all_goals exact (HSb.out W hC).mono fun e w2 ⟨he, hb⟩ => ⟨he, hb⟩
    case' n10 =>
      go_simp
      refine hK _ ?_
      clear hK K
    apply relWalk_ex rfl ?o11 (fun K hK => ?n11)
    case o11 =>
      intro W hC hF
      go_simp
      all_goals exact ⟨Below.refl _ _, rfl⟩
    case' n11 =>
      go_simp
      refine hK _ ?_
      clear hK K
    apply relWalk_ex rfl ?o12 (fun K hK => ?n12)
    case o12 =>
      intro W hC hF
      go_simp
      all_goals exact ⟨Below.refl _ _, rfl⟩
    case' n12 =>
      go_simp
      refine hK _ ?_
      clear hK K
    apply relWalk_exg ?o13 (fun K hK => ?n13)
    case o13 =>
      intro W hC hF
      first | exact relOp_off rfl rfl rfl rfl | exact relOp_none rfl rfl rfl | skip
      all_goals
        refine relOp_on rfl rfl ?_
        exact relAt_load 27 (.tmp 5) rfl g rfl 27 #[.slice pc1 nc1 cc1, .slice pc2 nc2 cc2, .slice pc3 nc3 cc3, .slice pc4 nc4 cc4] _ hC.2.1 Tryz.underlying27 rfl (by kernel_rfl)
    case' n13 =>
      go_simp
      refine hK _ ?_
      clear hK K
    apply relWalk_exg ?o14 (fun K hK => ?n14)
    case o14 =>
      intro W hC hF
      first | exact relOp_off rfl rfl rfl rfl | exact relOp_none rfl rfl rfl | skip
      all_goals
        refine relOp_on rfl rfl ?_
        exact relAt_load 27 (.tmp 2) rfl w.heap.size rfl 27 #[.slice pa1 na1 ca1, .slice pa2 na2 ca2, .slice pa3 na3 ca3, .slice pa4 na4 ca4] _ hC.1.1 Tryz.underlying27 rfl (by kernel_rfl)
    case' n14 =>
      go_simp
      refine hK _ ?_
      clear hK K
    apply relWalk_exg ?o15 (fun K hK => ?n15)
    case o15 =>
      intro W hC hF
      first | exact relOp_off rfl rfl rfl rfl | exact relOp_none rfl rfl rfl | skip
      all_goals
        refine relOp_on rfl rfl ?_
        go_simp
        all_goals exact (HRb.out W hC).mono fun e w2 ⟨he, hb⟩ => ⟨he, hb⟩
    case' n15 =>
      go_simp
      refine hK _ ?_
      clear hK K
    apply relWalk_ex rfl ?o16 (fun K hK => ?n16)
    case o16 =>
      intro W hC hF
      go_simp
      all_goals exact ⟨Below.refl _ _, rfl⟩
    case' n16 =>
      go_simp
      refine hK _ ?_
      clear hK K
    apply relWalk_ex rfl ?o17 (fun K hK => ?n17)
    case o17 =>
      intro W hC hF
      go_simp
      all_goals exact ⟨Below.refl _ _, rfl⟩
    case' n17 =>
      go_simp
      refine hK _ ?_
      clear hK K
    apply relWalk_exg ?o18 (fun K hK => ?n18)
    case o18 =>
      intro W hC hF
      first | exact relOp_off rfl rfl rfl rfl | exact relOp_none rfl rfl rfl | skip
      all_goals
        refine relOp_on rfl rfl ?_
        go_simp
        all_goals exact (HW.out W hC.1.2.2.2.2).mono fun e w2 ⟨he, hb⟩ => ⟨he, hb⟩
    case' n18 =>
      go_simp
      refine hK _ ?_
      clear hK K
    apply relWalk_ex rfl ?o19 (fun K hK => ?n19)
    case o19 =>
      intro W hC hF
      go_simp
      all_goals exact ⟨Below.refl _ _, rfl⟩
    case' n19 =>
      go_simp
      refine hK _ ?_
      clear hK K
    apply relWalk_end
    intro W hC hF hU
    have HBw := Lib.hid hC.1.2.2.2.2
    clear hC hF hU HSa HSb HRa HRb HW HS4
    go_wp2_with fail
    go_ret
    exact ⟨rfl, HBw.out⟩
end Go.Proofs.YtmcgbjjcpcgcfaaGreatDoor
