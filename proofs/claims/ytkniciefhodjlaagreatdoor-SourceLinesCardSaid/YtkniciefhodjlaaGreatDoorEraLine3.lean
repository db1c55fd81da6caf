/-
  eraline.line: what it returns.
-/
import Derived.Test.YtkniciefhodjlaaGreatDoorEraLine2
import Derived.Test.YtkniciefhodjlaaGreatDoorRelAll
set_option linter.unusedVariables false
set_option maxRecDepth 100000
set_option maxHeartbeats 4000000
namespace Go.Proofs.YtkniciefhodjlaaGreatDoor
open Go.Lib (hid)
open Go.RowKit
theorem line_ok0 (off kd sv:Int) (sf:ByteArray) (is:Bool) (y m d1 d2 d3 h1 h2:Int) (w:World) (ao:ByteArray) (hk:decide (0≤kd)=true) (hk2:decide (kd≤2)=true) (ha:(kd==1)=false) (hsv:(sv==0)=true) (hc:(kd==2)=false) (HS:Hid (∀W,Calls Tryz.prog 39 #[.string ⟨#[]⟩] W fun e w'=>e=.returned (.bool false)∧Below W.heap.size W w')) (HF:Hid (∀W,Calls Tryz.prog 78 #[.string sf] W fun e w'=>e=.returned (.bool true)∧Below W.heap.size W w')) (hl0:ao.size≤1000) (hl1:sf.size≤1000) (te:ByteArray) (hl2:te.size≤1000) (HE:Hid (∀W,Below w.heap.size w W→Calls Tryz.prog 79 #[.agg #[.bool is,.int .i64 y,.int .i64 m,.int .i64 d1,.int .i64 d2,.int .i64 d3,.int .i64 h1,.int .i64 h2]] W fun e w'=>e=.returned (.string te)∧Below W.heap.size W w'))
 (HA:Hid (∀W,Below w.heap.size w W→Calls Tryz.prog 76 #[.int .i64 off] W fun e w'=>e=.returned (.string ao)∧Below W.heap.size W w')) :
 Calls Tryz.prog 47 #[.agg #[.int .i64 off,.int .i64 kd,.int .i64 sv,.string ⟨#[]⟩,.string sf,.bool is,.int .i64 y,.int .i64 m,.int .i64 d1,.int .i64 d2,.int .i64 d3,.int .i64 h1,.int .i64 h2]] w fun e w'=>e=.returned (.string ⟨(ao.data.toList++([32]++(([45]:List UInt8)++([32]++(sf.data.toList++te.data.toList))))).toArray⟩)∧Below w.heap.size w w':=by
 have hB0:=(Below.refl w.heap.size w).alloc (Nat.le_refl _) (.cells #[.int .i64 off,.int .i64 kd,.int .i64 sv,.string ⟨#[]⟩,.string sf,.bool is,.int .i64 y,.int .i64 m,.int .i64 d1,.int .i64 d2,.int .i64 d3,.int .i64 h1,.int .i64 h2] 63);have HB0:=hid (And.intro (Blk.new' w 63 #[.int .i64 off,.int .i64 kd,.int .i64 sv,.string ⟨#[]⟩,.string sf,.bool is,.int .i64 y,.int .i64 m,.int .i64 d1,.int .i64 d2,.int .i64 d3,.int .i64 h1,.int .i64 h2] rfl) hB0);clear hB0
 go_enter Tryz.func47,Tryz.ntmps47;go_wp2_with fail
 refine (HA.out _ HB0.out.2).mono ?_;rintro e w1 ⟨rfl,hb1⟩;have HB1:=hid (And.intro (HB0.out.1.below hb1 HB0.out.1.lt) (HB0.out.2.trans (hb1.mono HB0.out.2.size)));clear hb1 HB0 HA;go_wp2_with fail
 refine wp_region_vals 42 (fun W=>Blk W w.heap.size 63 #[.int .i64 off,.int .i64 kd,.int .i64 sv,.string ⟨#[]⟩,.string sf,.bool is,.int .i64 y,.int .i64 m,.int .i64 d1,.int .i64 d2,.int .i64 d3,.int .i64 h1,.int .i64 h2]∧Below w.heap.size w W) (by kernel_rfl) (by kernel_rfl) rfl (⟨HB1.out.1,HB1.out.2.drew⟩) (fun W W' h hb=>⟨h.1.below hb h.1.lt,h.2.trans (hb.mono h.2.size)⟩) ?_
 iterate 4
  apply exV_ex rfl ?_ (fun K hK=>?_)
  any_goals
   intro W hC;obtain ⟨q0,q1,q2,q3,q4⟩:=lq5 hC.1;go_simp
   all_goals exact ⟨Below.refl _ _,rfl⟩
  any_goals
   revert hK
   intro hK;go_simp;refine hK _ ?_;clear hK K
 iterate 3
  apply exV_exg ?_ (fun K hK=>?_)
  any_goals
   intro W hC
   first|exact relOp_off rfl rfl rfl rfl|exact relOp_none rfl rfl rfl|skip
   all_goals
    refine relOp_on rfl rfl ?_;obtain ⟨q0,q1,q2,q3,q4⟩:=lq5 hC.1;go_simp
    all_goals exact ⟨Below.refl _ _,rfl⟩
  any_goals
   revert hK
   intro hK;go_simp;refine hK _ ?_;clear hK K
 iterate 2
  apply exV_ex rfl ?_ (fun K hK=>?_)
  any_goals
   intro W hC;obtain ⟨q0,q1,q2,q3,q4⟩:=lq5 hC.1;go_simp
   all_goals exact ⟨Below.refl _ _,rfl⟩
  any_goals
   revert hK
   intro hK;go_simp;refine hK _ ?_;clear hK K
 iterate 8
  apply exV_exg ?_ (fun K hK=>?_)
  any_goals
   intro W hC
   first|exact relOp_off rfl rfl rfl rfl|exact relOp_none rfl rfl rfl|skip
   all_goals
    refine relOp_on rfl rfl ?_;obtain ⟨q0,q1,q2,q3,q4⟩:=lq5 hC.1;go_simp
    all_goals exact ⟨Below.refl _ _,rfl⟩
  any_goals
   revert hK
   intro hK;go_simp;refine hK _ ?_;clear hK K
 iterate 2
  apply exV_ex rfl ?_ (fun K hK=>?_)
  any_goals
   intro W hC;obtain ⟨q0,q1,q2,q3,q4⟩:=lq5 hC.1;go_simp
   all_goals exact ⟨Below.refl _ _,rfl⟩
  any_goals
   revert hK
   intro hK;go_simp;refine hK _ ?_;clear hK K
 iterate 5
  apply exV_exg ?_ (fun K hK=>?_)
  any_goals
   intro W hC
   first|exact relOp_off rfl rfl rfl rfl|exact relOp_none rfl rfl rfl|skip
   all_goals
    refine relOp_on rfl rfl ?_;obtain ⟨q0,q1,q2,q3,q4⟩:=lq5 hC.1;go_simp
    all_goals exact ⟨Below.refl _ _,rfl⟩
  any_goals
   revert hK
   intro hK;go_simp;refine hK _ ?_;clear hK K
 apply exV_exg ?_ (fun K hK=>?_)
 any_goals
  intro W hC
  first|exact relOp_off rfl rfl rfl rfl|exact relOp_none rfl rfl rfl|skip
  all_goals
   refine relOp_on rfl rfl ?_;obtain ⟨q0,q1,q2,q3,q4⟩:=lq5 hC.1;go_simp
   all_goals exact (HS.out W).mono fun e w' ⟨he,hb⟩=>⟨he,hb⟩
 any_goals
  revert hK
  intro hK;go_simp;refine hK _ ?_;clear hK K
 apply exV_exg ?_ (fun K hK=>?_)
 any_goals
  intro W hC
  first|exact relOp_off rfl rfl rfl rfl|exact relOp_none rfl rfl rfl|skip
  all_goals
   refine relOp_on rfl rfl ?_;obtain ⟨q0,q1,q2,q3,q4⟩:=lq5 hC.1;go_simp
   all_goals exact ⟨Below.refl _ _,rfl⟩
 any_goals
  revert hK
  intro hK;go_simp;refine hK _ ?_;clear hK K
 iterate 2
  apply exV_ex rfl ?_ (fun K hK=>?_)
  any_goals
   intro W hC;obtain ⟨q0,q1,q2,q3,q4⟩:=lq5 hC.1;go_simp
   all_goals exact ⟨Below.refl _ _,rfl⟩
  any_goals
   revert hK
   intro hK;go_simp;refine hK _ ?_;clear hK K
 iterate 8
  apply exV_exg ?_ (fun K hK=>?_)
  any_goals
   intro W hC
   first|exact relOp_off rfl rfl rfl rfl|exact relOp_none rfl rfl rfl|skip
   all_goals
    refine relOp_on rfl rfl ?_;obtain ⟨q0,q1,q2,q3,q4⟩:=lq5 hC.1;go_simp
    all_goals exact ⟨Below.refl _ _,rfl⟩
  any_goals
   revert hK
   intro hK;go_simp;refine hK _ ?_;clear hK K
 iterate 2
  apply exV_ex rfl ?_ (fun K hK=>?_)
  any_goals
   intro W hC;obtain ⟨q0,q1,q2,q3,q4⟩:=lq5 hC.1;go_simp
   all_goals exact ⟨Below.refl _ _,rfl⟩
  any_goals
   revert hK
   intro hK;go_simp;refine hK _ ?_;clear hK K
 iterate 2
  apply exV_exg ?_ (fun K hK=>?_)
  any_goals
   intro W hC
   first|exact relOp_off rfl rfl rfl rfl|exact relOp_none rfl rfl rfl|skip
   all_goals
    refine relOp_on rfl rfl ?_;obtain ⟨q0,q1,q2,q3,q4⟩:=lq5 hC.1;go_simp
    all_goals exact ⟨Below.refl _ _,rfl⟩
  any_goals
   revert hK
   intro hK;go_simp;refine hK _ ?_;clear hK K
 apply exV_exg ?_ (fun K hK=>?_)
 any_goals
  intro W hC
  first|exact relOp_off rfl rfl rfl rfl|exact relOp_none rfl rfl rfl|skip
  all_goals
   refine relOp_on rfl rfl ?_;obtain ⟨q0,q1,q2,q3,q4⟩:=lq5 hC.1;go_simp
   all_goals exact (HF.out W).mono fun e w' ⟨he,hb⟩=>⟨he,hb⟩
 any_goals
  revert hK
  intro hK;go_simp;refine hK _ ?_;clear hK K
 apply exV_ex rfl ?_ (fun K hK=>?_)
 any_goals
  intro W hC;obtain ⟨q0,q1,q2,q3,q4⟩:=lq5 hC.1;go_simp
  all_goals exact ⟨Below.refl _ _,rfl⟩
 any_goals
  revert hK
  intro hK;go_simp;refine hK _ ?_;clear hK K
 apply exV_end
 intro W hC;clear HB1;have HB2:=hid hC;clear hC;go_wp2_with fail
 refine (must_yes _ _).mono ?_;rintro e w3 ⟨rfl,rfl⟩;have q1:=HB2.out.1.cell_ (i:=1) rfl;go_wp2_with fail
 refine wp_region_vals 12 (fun W=>Blk W w.heap.size 63 #[.int .i64 off,.int .i64 kd,.int .i64 sv,.string ⟨#[]⟩,.string sf,.bool is,.int .i64 y,.int .i64 m,.int .i64 d1,.int .i64 d2,.int .i64 d3,.int .i64 h1,.int .i64 h2]∧Below w.heap.size w W) (by kernel_rfl) (by kernel_rfl) rfl (⟨HB2.out.1,HB2.out.2.drew⟩) (fun W W' h hb=>⟨h.1.below hb h.1.lt,h.2.trans (hb.mono h.2.size)⟩) ?_
 apply exV_ex rfl ?_ (fun K hK=>?_)
 any_goals
  intro W hC;obtain ⟨q0,q1,q2,q3,q4,q5,q6,q7,q8,q9,q10,q11,q12⟩:=lq13 hC.1;go_simp
  all_goals exact ⟨Below.refl _ _,rfl⟩
 any_goals
  revert hK
  intro hK;go_simp;refine hK _ ?_;clear hK K
 apply exV_ex rfl ?_ (fun K hK=>?_)
 any_goals
  intro W hC;obtain ⟨q0,q1,q2,q3,q4,q5,q6,q7,q8,q9,q10,q11,q12⟩:=lq13 hC.1;go_simp
  all_goals (first|exact ⟨Below.refl _ _,rfl⟩|(rw [if_neg (by omega)];exact ⟨Below.refl _ _,rfl⟩))
 any_goals
  revert hK
  intro hK;go_simp;refine hK _ ?_;clear hK K
 apply exV_ex rfl ?_ (fun K hK=>?_)
 any_goals
  intro W hC;obtain ⟨q0,q1,q2,q3,q4,q5,q6,q7,q8,q9,q10,q11,q12⟩:=lq13 hC.1;go_simp
  all_goals exact ⟨Below.refl _ _,rfl⟩
 any_goals
  revert hK
  intro hK;go_simp;refine hK _ ?_;clear hK K
 iterate 2
  apply exV_ex rfl ?_ (fun K hK=>?_)
  any_goals
   intro W hC;obtain ⟨q0,q1,q2,q3,q4,q5,q6,q7,q8,q9,q10,q11,q12⟩:=lq13 hC.1;go_simp
   all_goals (first|exact ⟨Below.refl _ _,rfl⟩|(rw [if_neg (by omega)];exact ⟨Below.refl _ _,rfl⟩))
  any_goals
   revert hK
   intro hK;go_simp;refine hK _ ?_;clear hK K
 iterate 2
  apply exV_ex rfl ?_ (fun K hK=>?_)
  any_goals
   intro W hC;obtain ⟨q0,q1,q2,q3,q4,q5,q6,q7,q8,q9,q10,q11,q12⟩:=lq13 hC.1;go_simp
   all_goals exact ⟨Below.refl _ _,rfl⟩
  any_goals
   revert hK
   intro hK;go_simp;refine hK _ ?_;clear hK K
 apply exV_ex rfl ?_ (fun K hK=>?_)
 any_goals
  intro W hC;obtain ⟨q0,q1,q2,q3,q4,q5,q6,q7,q8,q9,q10,q11,q12⟩:=lq13 hC.1;go_simp
  all_goals (first|exact ⟨Below.refl _ _,rfl⟩|(rw [if_neg (by omega)];exact ⟨Below.refl _ _,rfl⟩))
 any_goals
  revert hK
  intro hK;go_simp;refine hK _ ?_;clear hK K
 iterate 2
  apply exV_ex rfl ?_ (fun K hK=>?_)
  any_goals
   intro W hC;obtain ⟨q0,q1,q2,q3,q4,q5,q6,q7,q8,q9,q10,q11,q12⟩:=lq13 hC.1;go_simp
   all_goals exact ⟨Below.refl _ _,rfl⟩
  any_goals
   revert hK
   intro hK;go_simp;refine hK _ ?_;clear hK K
 apply exV_ex rfl ?_ (fun K hK=>?_)
 any_goals
  intro W hC;obtain ⟨q0,q1,q2,q3,q4,q5,q6,q7,q8,q9,q10,q11,q12⟩:=lq13 hC.1;go_simp
  all_goals exact (HE.out W hC.2).mono fun e w' ⟨he,hb⟩=>⟨he,hb⟩
 any_goals
  revert hK
  intro hK;go_simp;refine hK _ ?_;clear hK K
 apply exV_ex rfl ?_ (fun K hK=>?_)
 any_goals
  intro W hC;obtain ⟨q0,q1,q2,q3,q4,q5,q6,q7,q8,q9,q10,q11,q12⟩:=lq13 hC.1;go_simp
  all_goals (first|exact ⟨Below.refl _ _,rfl⟩|(rw [if_neg (by omega)];exact ⟨Below.refl _ _,rfl⟩))
 any_goals
  revert hK
  intro hK;go_simp;refine hK _ ?_;clear hK K
 apply exV_end
 intro W hC;obtain ⟨hB,hBw⟩:=hC;have HB9:=hid hBw;clear hB hBw;go_wp2_with fail
 go_ret
 exact ⟨congrArg Ending.returned (congrArg Value.string (by apply ByteArray.ext;simp)),HB9.out⟩
theorem line_ok1 (off kd sv:Int) (sf:ByteArray) (is:Bool) (y m d1 d2 d3 h1 h2:Int) (w:World) (ao:ByteArray) (hk:decide (0≤kd)=true) (hk2:decide (kd≤2)=true) (ha:(kd==1)=true) (hc:(kd==2)=false) (HS:Hid (∀W,Calls Tryz.prog 39 #[.string ⟨#[]⟩] W fun e w'=>e=.returned (.bool false)∧Below W.heap.size W w')) (HF:Hid (∀W,Calls Tryz.prog 78 #[.string sf] W fun e w'=>e=.returned (.bool true)∧Below W.heap.size W w')) (hl0:ao.size≤1000) (hl1:sf.size≤1000) (as_:ByteArray) (hl3:as_.size≤1000) (HA2:Hid (∀W,Below w.heap.size w W→Calls Tryz.prog 76 #[.int .i64 sv] W fun e w'=>e=.returned (.string as_)∧Below W.heap.size W w')) (te:ByteArray) (hl2:te.size≤1000) (HE:Hid (∀W,Below w.heap.size w W→Calls Tryz.prog 79 #[.agg #[.bool is,.int .i64 y,.int .i64 m,.int .i64 d1,.int .i64 d2,.int .i64 d3,.int .i64 h1,.int .i64 h2]] W fun e w'=>e=.returned (.string te)∧Below W.heap.size W w'))
 (HA:Hid (∀W,Below w.heap.size w W→Calls Tryz.prog 76 #[.int .i64 off] W fun e w'=>e=.returned (.string ao)∧Below W.heap.size W w')) :
 Calls Tryz.prog 47 #[.agg #[.int .i64 off,.int .i64 kd,.int .i64 sv,.string ⟨#[]⟩,.string sf,.bool is,.int .i64 y,.int .i64 m,.int .i64 d1,.int .i64 d2,.int .i64 d3,.int .i64 h1,.int .i64 h2]] w fun e w'=>e=.returned (.string ⟨(ao.data.toList++([32]++(as_.data.toList++([32]++(sf.data.toList++te.data.toList))))).toArray⟩)∧Below w.heap.size w w':=by
 have hB0:=(Below.refl w.heap.size w).alloc (Nat.le_refl _) (.cells #[.int .i64 off,.int .i64 kd,.int .i64 sv,.string ⟨#[]⟩,.string sf,.bool is,.int .i64 y,.int .i64 m,.int .i64 d1,.int .i64 d2,.int .i64 d3,.int .i64 h1,.int .i64 h2] 63);have HB0:=hid (And.intro (Blk.new' w 63 #[.int .i64 off,.int .i64 kd,.int .i64 sv,.string ⟨#[]⟩,.string sf,.bool is,.int .i64 y,.int .i64 m,.int .i64 d1,.int .i64 d2,.int .i64 d3,.int .i64 h1,.int .i64 h2] rfl) hB0);clear hB0
 go_enter Tryz.func47,Tryz.ntmps47;go_wp2_with fail
 refine (HA.out _ HB0.out.2).mono ?_;rintro e w1 ⟨rfl,hb1⟩;have HB1:=hid (And.intro (HB0.out.1.below hb1 HB0.out.1.lt) (HB0.out.2.trans (hb1.mono HB0.out.2.size)));clear hb1 HB0 HA;go_wp2_with fail
 refine wp_region_vals 42 (fun W=>Blk W w.heap.size 63 #[.int .i64 off,.int .i64 kd,.int .i64 sv,.string ⟨#[]⟩,.string sf,.bool is,.int .i64 y,.int .i64 m,.int .i64 d1,.int .i64 d2,.int .i64 d3,.int .i64 h1,.int .i64 h2]∧Below w.heap.size w W) (by kernel_rfl) (by kernel_rfl) rfl (⟨HB1.out.1,HB1.out.2.drew⟩) (fun W W' h hb=>⟨h.1.below hb h.1.lt,h.2.trans (hb.mono h.2.size)⟩) ?_
 iterate 4
  apply exV_ex rfl ?_ (fun K hK=>?_)
  any_goals
   intro W hC;obtain ⟨q0,q1,q2,q3,q4⟩:=lq5 hC.1;go_simp
   all_goals exact ⟨Below.refl _ _,rfl⟩
  any_goals
   revert hK
   intro hK;go_simp;refine hK _ ?_;clear hK K
 iterate 3
  apply exV_exg ?_ (fun K hK=>?_)
  any_goals
   intro W hC
   first|exact relOp_off rfl rfl rfl rfl|exact relOp_none rfl rfl rfl|skip
   all_goals
    refine relOp_on rfl rfl ?_;obtain ⟨q0,q1,q2,q3,q4⟩:=lq5 hC.1;go_simp
    all_goals exact ⟨Below.refl _ _,rfl⟩
  any_goals
   revert hK
   intro hK;go_simp;refine hK _ ?_;clear hK K
 iterate 2
  apply exV_ex rfl ?_ (fun K hK=>?_)
  any_goals
   intro W hC;obtain ⟨q0,q1,q2,q3,q4⟩:=lq5 hC.1;go_simp
   all_goals exact ⟨Below.refl _ _,rfl⟩
  any_goals
   revert hK
   intro hK;go_simp;refine hK _ ?_;clear hK K
 iterate 8
  apply exV_exg ?_ (fun K hK=>?_)
  any_goals
   intro W hC
   first|exact relOp_off rfl rfl rfl rfl|exact relOp_none rfl rfl rfl|skip
   all_goals
    refine relOp_on rfl rfl ?_;obtain ⟨q0,q1,q2,q3,q4⟩:=lq5 hC.1;go_simp
    all_goals exact ⟨Below.refl _ _,rfl⟩
  any_goals
   revert hK
   intro hK;go_simp;refine hK _ ?_;clear hK K
 iterate 2
  apply exV_ex rfl ?_ (fun K hK=>?_)
  any_goals
   intro W hC;obtain ⟨q0,q1,q2,q3,q4⟩:=lq5 hC.1;go_simp
   all_goals exact ⟨Below.refl _ _,rfl⟩
  any_goals
   revert hK
   intro hK;go_simp;refine hK _ ?_;clear hK K
 iterate 5
  apply exV_exg ?_ (fun K hK=>?_)
  any_goals
   intro W hC
   first|exact relOp_off rfl rfl rfl rfl|exact relOp_none rfl rfl rfl|skip
   all_goals
    refine relOp_on rfl rfl ?_;obtain ⟨q0,q1,q2,q3,q4⟩:=lq5 hC.1;go_simp
    all_goals exact ⟨Below.refl _ _,rfl⟩
  any_goals
   revert hK
   intro hK;go_simp;refine hK _ ?_;clear hK K
 apply exV_exg ?_ (fun K hK=>?_)
 any_goals
  intro W hC
  first|exact relOp_off rfl rfl rfl rfl|exact relOp_none rfl rfl rfl|skip
  all_goals
   refine relOp_on rfl rfl ?_;obtain ⟨q0,q1,q2,q3,q4⟩:=lq5 hC.1;go_simp
   all_goals exact (HS.out W).mono fun e w' ⟨he,hb⟩=>⟨he,hb⟩
 any_goals
  revert hK
  intro hK;go_simp;refine hK _ ?_;clear hK K
 apply exV_exg ?_ (fun K hK=>?_)
 any_goals
  intro W hC
  first|exact relOp_off rfl rfl rfl rfl|exact relOp_none rfl rfl rfl|skip
  all_goals
   refine relOp_on rfl rfl ?_;obtain ⟨q0,q1,q2,q3,q4⟩:=lq5 hC.1;go_simp
   all_goals exact ⟨Below.refl _ _,rfl⟩
 any_goals
  revert hK
  intro hK;go_simp;refine hK _ ?_;clear hK K
 iterate 2
  apply exV_ex rfl ?_ (fun K hK=>?_)
  any_goals
   intro W hC;obtain ⟨q0,q1,q2,q3,q4⟩:=lq5 hC.1;go_simp
   all_goals exact ⟨Below.refl _ _,rfl⟩
  any_goals
   revert hK
   intro hK;go_simp;refine hK _ ?_;clear hK K
 iterate 8
  apply exV_exg ?_ (fun K hK=>?_)
  any_goals
   intro W hC
   first|exact relOp_off rfl rfl rfl rfl|exact relOp_none rfl rfl rfl|skip
   all_goals
    refine relOp_on rfl rfl ?_;obtain ⟨q0,q1,q2,q3,q4⟩:=lq5 hC.1;go_simp
    all_goals exact ⟨Below.refl _ _,rfl⟩
  any_goals
   revert hK
   intro hK;go_simp;refine hK _ ?_;clear hK K
 iterate 2
  apply exV_ex rfl ?_ (fun K hK=>?_)
  any_goals
   intro W hC;obtain ⟨q0,q1,q2,q3,q4⟩:=lq5 hC.1;go_simp
   all_goals exact ⟨Below.refl _ _,rfl⟩
  any_goals
   revert hK
   intro hK;go_simp;refine hK _ ?_;clear hK K
 iterate 2
  apply exV_exg ?_ (fun K hK=>?_)
  any_goals
   intro W hC
   first|exact relOp_off rfl rfl rfl rfl|exact relOp_none rfl rfl rfl|skip
   all_goals
    refine relOp_on rfl rfl ?_;obtain ⟨q0,q1,q2,q3,q4⟩:=lq5 hC.1;go_simp
    all_goals exact ⟨Below.refl _ _,rfl⟩
  any_goals
   revert hK
   intro hK;go_simp;refine hK _ ?_;clear hK K
 apply exV_exg ?_ (fun K hK=>?_)
 any_goals
  intro W hC
  first|exact relOp_off rfl rfl rfl rfl|exact relOp_none rfl rfl rfl|skip
  all_goals
   refine relOp_on rfl rfl ?_;obtain ⟨q0,q1,q2,q3,q4⟩:=lq5 hC.1;go_simp
   all_goals exact (HF.out W).mono fun e w' ⟨he,hb⟩=>⟨he,hb⟩
 any_goals
  revert hK
  intro hK;go_simp;refine hK _ ?_;clear hK K
 apply exV_ex rfl ?_ (fun K hK=>?_)
 any_goals
  intro W hC;obtain ⟨q0,q1,q2,q3,q4⟩:=lq5 hC.1;go_simp
  all_goals exact ⟨Below.refl _ _,rfl⟩
 any_goals
  revert hK
  intro hK;go_simp;refine hK _ ?_;clear hK K
 apply exV_end
 intro W hC;clear HB1;have HB2:=hid hC;clear hC;go_wp2_with fail
 refine (must_yes _ _).mono ?_;rintro e w3 ⟨rfl,rfl⟩;have q1:=HB2.out.1.cell_ (i:=1) rfl;have q2:=HB2.out.1.cell_ (i:=2) rfl;go_wp2_with fail
 refine (HA2.out _ HB2.out.2).mono ?_;rintro e w4 ⟨rfl,hb4⟩;have HB4:=hid (And.intro (HB2.out.1.below hb4 HB2.out.1.lt) (HB2.out.2.trans (hb4.mono HB2.out.2.size)));clear hb4 HB2 HA2 q1 q2;go_wp2_with fail
 refine wp_region_vals 12 (fun W=>Blk W w.heap.size 63 #[.int .i64 off,.int .i64 kd,.int .i64 sv,.string ⟨#[]⟩,.string sf,.bool is,.int .i64 y,.int .i64 m,.int .i64 d1,.int .i64 d2,.int .i64 d3,.int .i64 h1,.int .i64 h2]∧Below w.heap.size w W) (by kernel_rfl) (by kernel_rfl) rfl (⟨HB4.out.1,HB4.out.2.drew⟩) (fun W W' h hb=>⟨h.1.below hb h.1.lt,h.2.trans (hb.mono h.2.size)⟩) ?_
 apply exV_ex rfl ?_ (fun K hK=>?_)
 any_goals
  intro W hC;obtain ⟨q0,q1,q2,q3,q4,q5,q6,q7,q8,q9,q10,q11,q12⟩:=lq13 hC.1;go_simp
  all_goals exact ⟨Below.refl _ _,rfl⟩
 any_goals
  revert hK
  intro hK;go_simp;refine hK _ ?_;clear hK K
 apply exV_ex rfl ?_ (fun K hK=>?_)
 any_goals
  intro W hC;obtain ⟨q0,q1,q2,q3,q4,q5,q6,q7,q8,q9,q10,q11,q12⟩:=lq13 hC.1;go_simp
  all_goals (first|exact ⟨Below.refl _ _,rfl⟩|(rw [if_neg (by omega)];exact ⟨Below.refl _ _,rfl⟩))
 any_goals
  revert hK
  intro hK;go_simp;refine hK _ ?_;clear hK K
 apply exV_ex rfl ?_ (fun K hK=>?_)
 any_goals
  intro W hC;obtain ⟨q0,q1,q2,q3,q4,q5,q6,q7,q8,q9,q10,q11,q12⟩:=lq13 hC.1;go_simp
  all_goals exact ⟨Below.refl _ _,rfl⟩
 any_goals
  revert hK
  intro hK;go_simp;refine hK _ ?_;clear hK K
 iterate 2
  apply exV_ex rfl ?_ (fun K hK=>?_)
  any_goals
   intro W hC;obtain ⟨q0,q1,q2,q3,q4,q5,q6,q7,q8,q9,q10,q11,q12⟩:=lq13 hC.1;go_simp
   all_goals (first|exact ⟨Below.refl _ _,rfl⟩|(rw [if_neg (by omega)];exact ⟨Below.refl _ _,rfl⟩))
  any_goals
   revert hK
   intro hK;go_simp;refine hK _ ?_;clear hK K
 iterate 2
  apply exV_ex rfl ?_ (fun K hK=>?_)
  any_goals
   intro W hC;obtain ⟨q0,q1,q2,q3,q4,q5,q6,q7,q8,q9,q10,q11,q12⟩:=lq13 hC.1;go_simp
   all_goals exact ⟨Below.refl _ _,rfl⟩
  any_goals
   revert hK
   intro hK;go_simp;refine hK _ ?_;clear hK K
 apply exV_ex rfl ?_ (fun K hK=>?_)
 any_goals
  intro W hC;obtain ⟨q0,q1,q2,q3,q4,q5,q6,q7,q8,q9,q10,q11,q12⟩:=lq13 hC.1;go_simp
  all_goals (first|exact ⟨Below.refl _ _,rfl⟩|(rw [if_neg (by omega)];exact ⟨Below.refl _ _,rfl⟩))
 any_goals
  revert hK
  intro hK;go_simp;refine hK _ ?_;clear hK K
 iterate 2
  apply exV_ex rfl ?_ (fun K hK=>?_)
  any_goals
   intro W hC;obtain ⟨q0,q1,q2,q3,q4,q5,q6,q7,q8,q9,q10,q11,q12⟩:=lq13 hC.1;go_simp
   all_goals exact ⟨Below.refl _ _,rfl⟩
  any_goals
   revert hK
   intro hK;go_simp;refine hK _ ?_;clear hK K
 apply exV_ex rfl ?_ (fun K hK=>?_)
 any_goals
  intro W hC;obtain ⟨q0,q1,q2,q3,q4,q5,q6,q7,q8,q9,q10,q11,q12⟩:=lq13 hC.1;go_simp
  all_goals exact (HE.out W hC.2).mono fun e w' ⟨he,hb⟩=>⟨he,hb⟩
 any_goals
  revert hK
  intro hK;go_simp;refine hK _ ?_;clear hK K
 apply exV_ex rfl ?_ (fun K hK=>?_)
 any_goals
  intro W hC;obtain ⟨q0,q1,q2,q3,q4,q5,q6,q7,q8,q9,q10,q11,q12⟩:=lq13 hC.1;go_simp
  all_goals (first|exact ⟨Below.refl _ _,rfl⟩|(rw [if_neg (by omega)];exact ⟨Below.refl _ _,rfl⟩))
 any_goals
  revert hK
  intro hK;go_simp;refine hK _ ?_;clear hK K
 apply exV_end
 intro W hC;obtain ⟨hB,hBw⟩:=hC;have HB9:=hid hBw;clear hB hBw;go_wp2_with fail
 go_ret
 exact ⟨congrArg Ending.returned (congrArg Value.string (by apply ByteArray.ext;simp)),HB9.out⟩
theorem line_ok2 (off kd sv:Int) (sn sf:ByteArray) (is:Bool) (y m d1 d2 d3 h1 h2:Int) (w:World) (ao:ByteArray) (hk:decide (0≤kd)=true) (hk2:decide (kd≤2)=true) (ha:(kd==1)=false) (hsv:(sv==0)=true) (hc:(kd==2)=true) (hl4:sn.size≤1000) (HS:Hid (∀W,Calls Tryz.prog 39 #[.string sn] W fun e w'=>e=.returned (.bool true)∧Below W.heap.size W w')) (HF:Hid (∀W,Calls Tryz.prog 78 #[.string sf] W fun e w'=>e=.returned (.bool true)∧Below W.heap.size W w')) (hl0:ao.size≤1000) (hl1:sf.size≤1000) (te:ByteArray) (hl2:te.size≤1000) (HE:Hid (∀W,Below w.heap.size w W→Calls Tryz.prog 79 #[.agg #[.bool is,.int .i64 y,.int .i64 m,.int .i64 d1,.int .i64 d2,.int .i64 d3,.int .i64 h1,.int .i64 h2]] W fun e w'=>e=.returned (.string te)∧Below W.heap.size W w'))
 (HA:Hid (∀W,Below w.heap.size w W→Calls Tryz.prog 76 #[.int .i64 off] W fun e w'=>e=.returned (.string ao)∧Below W.heap.size W w')) :
 Calls Tryz.prog 47 #[.agg #[.int .i64 off,.int .i64 kd,.int .i64 sv,.string sn,.string sf,.bool is,.int .i64 y,.int .i64 m,.int .i64 d1,.int .i64 d2,.int .i64 d3,.int .i64 h1,.int .i64 h2]] w fun e w'=>e=.returned (.string ⟨(ao.data.toList++([32]++(sn.data.toList++([32]++(sf.data.toList++te.data.toList))))).toArray⟩)∧Below w.heap.size w w':=by
 have hB0:=(Below.refl w.heap.size w).alloc (Nat.le_refl _) (.cells #[.int .i64 off,.int .i64 kd,.int .i64 sv,.string sn,.string sf,.bool is,.int .i64 y,.int .i64 m,.int .i64 d1,.int .i64 d2,.int .i64 d3,.int .i64 h1,.int .i64 h2] 63);have HB0:=hid (And.intro (Blk.new' w 63 #[.int .i64 off,.int .i64 kd,.int .i64 sv,.string sn,.string sf,.bool is,.int .i64 y,.int .i64 m,.int .i64 d1,.int .i64 d2,.int .i64 d3,.int .i64 h1,.int .i64 h2] rfl) hB0);clear hB0
 go_enter Tryz.func47,Tryz.ntmps47;go_wp2_with fail
 refine (HA.out _ HB0.out.2).mono ?_;rintro e w1 ⟨rfl,hb1⟩;have HB1:=hid (And.intro (HB0.out.1.below hb1 HB0.out.1.lt) (HB0.out.2.trans (hb1.mono HB0.out.2.size)));clear hb1 HB0 HA;go_wp2_with fail
 refine wp_region_vals 42 (fun W=>Blk W w.heap.size 63 #[.int .i64 off,.int .i64 kd,.int .i64 sv,.string sn,.string sf,.bool is,.int .i64 y,.int .i64 m,.int .i64 d1,.int .i64 d2,.int .i64 d3,.int .i64 h1,.int .i64 h2]∧Below w.heap.size w W) (by kernel_rfl) (by kernel_rfl) rfl (⟨HB1.out.1,HB1.out.2.drew⟩) (fun W W' h hb=>⟨h.1.below hb h.1.lt,h.2.trans (hb.mono h.2.size)⟩) ?_
 iterate 4
  apply exV_ex rfl ?_ (fun K hK=>?_)
  any_goals
   intro W hC;obtain ⟨q0,q1,q2,q3,q4⟩:=lq5 hC.1;go_simp
   all_goals exact ⟨Below.refl _ _,rfl⟩
  any_goals
   revert hK
   intro hK;go_simp;refine hK _ ?_;clear hK K
 iterate 3
  apply exV_exg ?_ (fun K hK=>?_)
  any_goals
   intro W hC
   first|exact relOp_off rfl rfl rfl rfl|exact relOp_none rfl rfl rfl|skip
   all_goals
    refine relOp_on rfl rfl ?_;obtain ⟨q0,q1,q2,q3,q4⟩:=lq5 hC.1;go_simp
    all_goals exact ⟨Below.refl _ _,rfl⟩
  any_goals
   revert hK
   intro hK;go_simp;refine hK _ ?_;clear hK K
 iterate 2
  apply exV_ex rfl ?_ (fun K hK=>?_)
  any_goals
   intro W hC;obtain ⟨q0,q1,q2,q3,q4⟩:=lq5 hC.1;go_simp
   all_goals exact ⟨Below.refl _ _,rfl⟩
  any_goals
   revert hK
   intro hK;go_simp;refine hK _ ?_;clear hK K
 iterate 8
  apply exV_exg ?_ (fun K hK=>?_)
  any_goals
   intro W hC
   first|exact relOp_off rfl rfl rfl rfl|exact relOp_none rfl rfl rfl|skip
   all_goals
    refine relOp_on rfl rfl ?_;obtain ⟨q0,q1,q2,q3,q4⟩:=lq5 hC.1;go_simp
    all_goals exact ⟨Below.refl _ _,rfl⟩
  any_goals
   revert hK
   intro hK;go_simp;refine hK _ ?_;clear hK K
 iterate 2
  apply exV_ex rfl ?_ (fun K hK=>?_)
  any_goals
   intro W hC;obtain ⟨q0,q1,q2,q3,q4⟩:=lq5 hC.1;go_simp
   all_goals exact ⟨Below.refl _ _,rfl⟩
  any_goals
   revert hK
   intro hK;go_simp;refine hK _ ?_;clear hK K
 iterate 5
  apply exV_exg ?_ (fun K hK=>?_)
  any_goals
   intro W hC
   first|exact relOp_off rfl rfl rfl rfl|exact relOp_none rfl rfl rfl|skip
   all_goals
    refine relOp_on rfl rfl ?_;obtain ⟨q0,q1,q2,q3,q4⟩:=lq5 hC.1;go_simp
    all_goals exact ⟨Below.refl _ _,rfl⟩
  any_goals
   revert hK
   intro hK;go_simp;refine hK _ ?_;clear hK K
 apply exV_exg ?_ (fun K hK=>?_)
 any_goals
  intro W hC
  first|exact relOp_off rfl rfl rfl rfl|exact relOp_none rfl rfl rfl|skip
  all_goals
   refine relOp_on rfl rfl ?_;obtain ⟨q0,q1,q2,q3,q4⟩:=lq5 hC.1;go_simp
   all_goals exact (HS.out W).mono fun e w' ⟨he,hb⟩=>⟨he,hb⟩
 any_goals
  revert hK
  intro hK;go_simp;refine hK _ ?_;clear hK K
 apply exV_exg ?_ (fun K hK=>?_)
 any_goals
  intro W hC
  first|exact relOp_off rfl rfl rfl rfl|exact relOp_none rfl rfl rfl|skip
  all_goals
   refine relOp_on rfl rfl ?_;obtain ⟨q0,q1,q2,q3,q4⟩:=lq5 hC.1;go_simp
   all_goals exact ⟨Below.refl _ _,rfl⟩
 any_goals
  revert hK
  intro hK;go_simp;refine hK _ ?_;clear hK K
 iterate 2
  apply exV_ex rfl ?_ (fun K hK=>?_)
  any_goals
   intro W hC;obtain ⟨q0,q1,q2,q3,q4⟩:=lq5 hC.1;go_simp
   all_goals exact ⟨Below.refl _ _,rfl⟩
  any_goals
   revert hK
   intro hK;go_simp;refine hK _ ?_;clear hK K
 iterate 8
  apply exV_exg ?_ (fun K hK=>?_)
  any_goals
   intro W hC
   first|exact relOp_off rfl rfl rfl rfl|exact relOp_none rfl rfl rfl|skip
   all_goals
    refine relOp_on rfl rfl ?_;obtain ⟨q0,q1,q2,q3,q4⟩:=lq5 hC.1;go_simp
    all_goals exact ⟨Below.refl _ _,rfl⟩
  any_goals
   revert hK
   intro hK;go_simp;refine hK _ ?_;clear hK K
 iterate 2
  apply exV_ex rfl ?_ (fun K hK=>?_)
  any_goals
   intro W hC;obtain ⟨q0,q1,q2,q3,q4⟩:=lq5 hC.1;go_simp
   all_goals exact ⟨Below.refl _ _,rfl⟩
  any_goals
   revert hK
   intro hK;go_simp;refine hK _ ?_;clear hK K
 iterate 2
  apply exV_exg ?_ (fun K hK=>?_)
  any_goals
   intro W hC
   first|exact relOp_off rfl rfl rfl rfl|exact relOp_none rfl rfl rfl|skip
   all_goals
    refine relOp_on rfl rfl ?_;obtain ⟨q0,q1,q2,q3,q4⟩:=lq5 hC.1;go_simp
    all_goals exact ⟨Below.refl _ _,rfl⟩
  any_goals
   revert hK
   intro hK;go_simp;refine hK _ ?_;clear hK K
 apply exV_exg ?_ (fun K hK=>?_)
 any_goals
  intro W hC
  first|exact relOp_off rfl rfl rfl rfl|exact relOp_none rfl rfl rfl|skip
  all_goals
   refine relOp_on rfl rfl ?_;obtain ⟨q0,q1,q2,q3,q4⟩:=lq5 hC.1;go_simp
   all_goals exact (HF.out W).mono fun e w' ⟨he,hb⟩=>⟨he,hb⟩
 any_goals
  revert hK
  intro hK;go_simp;refine hK _ ?_;clear hK K
 apply exV_ex rfl ?_ (fun K hK=>?_)
 any_goals
  intro W hC;obtain ⟨q0,q1,q2,q3,q4⟩:=lq5 hC.1;go_simp
  all_goals exact ⟨Below.refl _ _,rfl⟩
 any_goals
  revert hK
  intro hK;go_simp;refine hK _ ?_;clear hK K
 apply exV_end
 intro W hC;clear HB1;have HB2:=hid hC;clear hC;go_wp2_with fail
 refine (must_yes _ _).mono ?_;rintro e w3 ⟨rfl,rfl⟩;have q1:=HB2.out.1.cell_ (i:=1) rfl;have q3:=HB2.out.1.cell_ (i:=3) rfl;go_wp2_with fail
 refine wp_region_vals 12 (fun W=>Blk W w.heap.size 63 #[.int .i64 off,.int .i64 kd,.int .i64 sv,.string sn,.string sf,.bool is,.int .i64 y,.int .i64 m,.int .i64 d1,.int .i64 d2,.int .i64 d3,.int .i64 h1,.int .i64 h2]∧Below w.heap.size w W) (by kernel_rfl) (by kernel_rfl) rfl (⟨HB2.out.1,HB2.out.2.drew⟩) (fun W W' h hb=>⟨h.1.below hb h.1.lt,h.2.trans (hb.mono h.2.size)⟩) ?_
 apply exV_ex rfl ?_ (fun K hK=>?_)
 any_goals
  intro W hC;obtain ⟨q0,q1,q2,q3,q4,q5,q6,q7,q8,q9,q10,q11,q12⟩:=lq13 hC.1;go_simp
  all_goals exact ⟨Below.refl _ _,rfl⟩
 any_goals
  revert hK
  intro hK;go_simp;refine hK _ ?_;clear hK K
 apply exV_ex rfl ?_ (fun K hK=>?_)
 any_goals
  intro W hC;obtain ⟨q0,q1,q2,q3,q4,q5,q6,q7,q8,q9,q10,q11,q12⟩:=lq13 hC.1;go_simp
  all_goals (first|exact ⟨Below.refl _ _,rfl⟩|(rw [if_neg (by omega)];exact ⟨Below.refl _ _,rfl⟩))
 any_goals
  revert hK
  intro hK;go_simp;refine hK _ ?_;clear hK K
 apply exV_ex rfl ?_ (fun K hK=>?_)
 any_goals
  intro W hC;obtain ⟨q0,q1,q2,q3,q4,q5,q6,q7,q8,q9,q10,q11,q12⟩:=lq13 hC.1;go_simp
  all_goals exact ⟨Below.refl _ _,rfl⟩
 any_goals
  revert hK
  intro hK;go_simp;refine hK _ ?_;clear hK K
 iterate 2
  apply exV_ex rfl ?_ (fun K hK=>?_)
  any_goals
   intro W hC;obtain ⟨q0,q1,q2,q3,q4,q5,q6,q7,q8,q9,q10,q11,q12⟩:=lq13 hC.1;go_simp
   all_goals (first|exact ⟨Below.refl _ _,rfl⟩|(rw [if_neg (by omega)];exact ⟨Below.refl _ _,rfl⟩))
  any_goals
   revert hK
   intro hK;go_simp;refine hK _ ?_;clear hK K
 iterate 2
  apply exV_ex rfl ?_ (fun K hK=>?_)
  any_goals
   intro W hC;obtain ⟨q0,q1,q2,q3,q4,q5,q6,q7,q8,q9,q10,q11,q12⟩:=lq13 hC.1;go_simp
   all_goals exact ⟨Below.refl _ _,rfl⟩
  any_goals
   revert hK
   intro hK;go_simp;refine hK _ ?_;clear hK K
 apply exV_ex rfl ?_ (fun K hK=>?_)
 any_goals
  intro W hC;obtain ⟨q0,q1,q2,q3,q4,q5,q6,q7,q8,q9,q10,q11,q12⟩:=lq13 hC.1;go_simp
  all_goals (first|exact ⟨Below.refl _ _,rfl⟩|(rw [if_neg (by omega)];exact ⟨Below.refl _ _,rfl⟩))
 any_goals
  revert hK
  intro hK;go_simp;refine hK _ ?_;clear hK K
 iterate 2
  apply exV_ex rfl ?_ (fun K hK=>?_)
  any_goals
   intro W hC;obtain ⟨q0,q1,q2,q3,q4,q5,q6,q7,q8,q9,q10,q11,q12⟩:=lq13 hC.1;go_simp
   all_goals exact ⟨Below.refl _ _,rfl⟩
  any_goals
   revert hK
   intro hK;go_simp;refine hK _ ?_;clear hK K
 apply exV_ex rfl ?_ (fun K hK=>?_)
 any_goals
  intro W hC;obtain ⟨q0,q1,q2,q3,q4,q5,q6,q7,q8,q9,q10,q11,q12⟩:=lq13 hC.1;go_simp
  all_goals exact (HE.out W hC.2).mono fun e w' ⟨he,hb⟩=>⟨he,hb⟩
 any_goals
  revert hK
  intro hK;go_simp;refine hK _ ?_;clear hK K
 apply exV_ex rfl ?_ (fun K hK=>?_)
 any_goals
  intro W hC;obtain ⟨q0,q1,q2,q3,q4,q5,q6,q7,q8,q9,q10,q11,q12⟩:=lq13 hC.1;go_simp
  all_goals (first|exact ⟨Below.refl _ _,rfl⟩|(rw [if_neg (by omega)];exact ⟨Below.refl _ _,rfl⟩))
 any_goals
  revert hK
  intro hK;go_simp;refine hK _ ?_;clear hK K
 apply exV_end
 intro W hC;obtain ⟨hB,hBw⟩:=hC;have HB9:=hid hBw;clear hB hBw;go_wp2_with fail
 go_ret
 exact ⟨congrArg Ending.returned (congrArg Value.string (by apply ByteArray.ext;simp)),HB9.out⟩
end Go.Proofs.YtkniciefhodjlaaGreatDoor
