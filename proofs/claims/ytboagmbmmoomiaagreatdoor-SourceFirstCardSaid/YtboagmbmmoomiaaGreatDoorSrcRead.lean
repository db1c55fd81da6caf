/-
  The reader of layer 13: a rule, a link, a shift, an era, a zone are read into rows of the call's own.
-/
import Derived.Test.YtboagmbmmoomiaaGreatDoorSrcRd
import Derived.Test.YtboagmbmmoomiaaGreatDoorRelRows
import Derived.Test.YtboagmbmmoomiaaGreatDoorErrIs
import Derived.Test.YtboagmbmmoomiaaGreatDoorLex
import Derived.Test.YtboagmbmmoomiaaGreatDoorRuleLaw
import Derived.Outline
set_option linter.unusedVariables false
set_option linter.unusedSimpArgs false
set_option maxRecDepth 100000
set_option maxHeartbeats 4000000
namespace Go.Proofs.YtboagmbmmoomiaaGreatDoor
open Go.Lib (hid)
open Go.RowKit Go.Shelf
abbrev RTypes (T:Nat):Prop:=55≠T∧58≠T∧64≠T∧9≠T∧3≠T∧32≠T∧62≠T
structure RX (B g L RT:Nat) (w:World) (RC:Array Value) (st:RdP) (cur:List ZV) (el:List IV) (v:V8) (gx T:Nat) (X:Array Value) (W:World):Prop where
 rr:RR B st cur el v W
 out:Blk W g RT RC
 box:T≠0→Blk W gx T X
 bel:Below B w W
 lsz:L≤W.heap.size
 bl:B≤L
section
variable {B g L RT gx T:Nat} {w W W':World} {RC X:Array Value} {st:RdP} {cur:List ZV} {el:List IV} {v:V8}
theorem RX.below (h:RX B g L RT w RC st cur el v gx T X W) (hb:Below W.heap.size W W'):RX B g L RT w RC st cur el v gx T X W' :=
 ⟨h.rr.below hb,h.out.below hb h.out.lt,fun h0=>(h.box h0).below hb (h.box h0).lt,h.bel.trans (hb.mono (Nat.le_trans h.bl h.lsz)),Nat.le_trans h.lsz hb.size,h.bl⟩
theorem RX.kept (h:RX B g L RT w RC st cur el v gx T X W) (hRT:RTypes RT) {i:Nat} {r:Row} (hi:(rdRows st cur el v)[i]? = some r) (hx:T≠r.e∨lowV gx r.v) (hg:GOwn r.e r.k B r.n r.xs r.v W W'):RX B g L RT w RC st cur el v gx T X W':=by
 have ho:=h.rr.rows.own r (List.mem_of_getElem? hi);refine ⟨⟨h.rr.rows.kept hi hg,h.rr.zs,h.rr.es⟩,h.rr.rows.blk hi h.out hg.1 (fun e=>rd_types st cur el v hRT r (List.mem_of_getElem? hi) e.symm),fun h0=>?_,h.bel.grown hg.1 (Nat.le_trans h.bl h.lsz) (own_base ho),Nat.le_trans h.lsz hg.1.size,h.bl⟩
 rcases hx with hx|hx
 ·exact h.rr.rows.blk hi (h.box h0) hg.1 hx
 ·exact (hg.1.block gx (h.box h0).lt (fun hh=>by have:=hx gx hh.symm;omega)).trans (h.box h0)
end
def CG (B g L RT:Nat) (w:World) (RCf:Value→Array Value) (st:RdP) (cur:List ZV) (el:List IV) (v:V8) (gx T:Nat) (X:Array Value) (vo:Value) (G:Value→World→Prop) (b:Bool) (W:World):Prop:=∃u,(b=false→u=vo)∧(b=true→G u W)∧RX B g L RT w (RCf u) st cur el v gx T X W
section
variable {B g L RT gx T:Nat} {w W W':World} {RCf:Value→Array Value} {X:Array Value} {st:RdP} {cur:List ZV} {el:List IV} {v:V8} {vo:Value} {G:Value→World→Prop} {b:Bool}
theorem CG.below (hG:Lasts G) (h:CG B g L RT w RCf st cur el v gx T X vo G b W) (hb:Below W.heap.size W W'):CG B g L RT w RCf st cur el v gx T X vo G b W':=by
 obtain ⟨u,h1,h2,h3⟩:=h;exact ⟨u,h1,fun e=>hG u _ _ hb (h2 e),h3.below hb⟩
theorem CG.kept (hRT:RTypes RT) {i:Nat} {r:Row} (hi:(rdRows st cur el v)[i]? = some r) (hx:T≠r.e∨lowV gx r.v) (h:CG B g L RT w RCf st cur el v gx T X vo G false W) (hg:GOwn r.e r.k B r.n r.xs r.v W W'):CG B g L RT w RCf st cur el v gx T X vo G false W':=by
 obtain ⟨u,h1,h2,h3⟩:=h;exact ⟨u,h1,fun e=>(by cases e),h3.kept hRT hi hx hg⟩
theorem CG.gate (hRT:RTypes RT) {j:Nat} (hset:∀u u',(RCf u).setIfInBounds j u'=RCf u') (hT:T≠RT) (hBg:B≤g) (hG:∀u w w',StoreG g j RT G w w'→G u w→G u w') (h:CG B g L RT w RCf st cur el v gx T X vo G false W) (hs:StoreG g j RT G W W'):CG B g L RT w RCf st cur el v gx T X vo G true W':=by
 obtain ⟨u,h1,h2,h3⟩:=h;have hs0:=hs;obtain ⟨⟨Y,hY⟩,u',hu',rfl⟩:=hs;refine ⟨u',fun e=>(by cases e),fun _=>hG u' _ _ hs0 hu',h3.rr.far h3.out hRT u',?_,fun h0=>?_,h3.bel.setCell hBg u',by simpa using h3.lsz,h3.bl⟩
 ·have:=h3.out.set_ j u'
  rw [hset] at this;exact this
 ·exact (h3.box h0).far (fun hx=>hT (by have hx:gx=g:=hx;subst hx;exact rows_typ (h3.box h0) h3.out)) u'
end
theorem rx_apart {B:Nat} {st:RdP} {cur:List ZV} {el:List IV} {v:V8} {W:World} (h:RR B st cur el v W) {i j:Nat} {r s:Row} (hi:(rdRows st cur el v)[i]? = some r) (hj:(rdRows st cur el v)[j]? = some s) (hij:i≠j):r.v.ownBlock=none∨r.v.ownBlock≠s.v.ownBlock:=rows_other (h.rows.own r (List.mem_of_getElem? hi)) (h.rows.own s (List.mem_of_getElem? hj)) (rows_ne h.rows.apart hi hj hij)
structure RdSm (st:RdP):Prop where
 rules:st.s.rules.length≤2001∧st.l.rules.length≤2001
 zones:st.s.zones.length≤501∧st.l.eras.length≤501
 links:st.s.links.length≤1001∧st.l.links.length≤1001
 shifts:st.s.shifts.length≤2001∧st.l.shifts.length≤2001
 eras:∀z ∈ st.s.zones,z.eras.length≤61
 lines:∀l ∈ st.l.eras,l.length≤61
def RdAt (RT B g:Nat) (tl:List Value) (st:RdP) (W:World):Prop:=B≤g∧∃cur el,∃v:V8,Blk W g RT ([v.v1,v.v2,v.v3,v.v4,v.u1,v.u2,v.u3,v.u4]++tl).toArray∧RR B st cur el v W
abbrev RdG (B g:Nat) (n:Int) (st:RdP) (W:World):Prop:=RdAt 106 B g [.int .i64 n,.bool st.op] st W
theorem srule_any (B g:Nat) (st:RdP) (n:Int) (b o k c:Nat) (ls:List (List UInt8)) (w:World) (h:RdG B g n st w) (hT:RTabs w) (hr:StrRow w b o ls) (hn:ls.length=k) (hl:∀l ∈ ls,l.length≤1048576) (hm:k≤1000000) (hsm:RdSm st) :
 Calls Tryz.prog 84 #[.pointer (some ⟨g,0,none⟩),.slice (some ⟨b,o,none⟩) k c] w fun e w'=>e=.returned (errV (ruleS st n ls).2)∧RdG B g n (ruleS st n ls).1 w'∧Below B w w':=by
 obtain ⟨hBg,cur,el,⟨v1,v2,v3,v4,u1,u2,u3,u4⟩,hblk,hrr⟩:=h;obtain ⟨ix,zx,hix,hzx,hszx,hbyx,hzcx⟩:=info_st (P:=Tryz.prog) (e:=55) (k:=11) (by kernel_rfl);obtain ⟨ii,zi,hii,hzi,hszi,hbyi,hzci⟩:=info_st (P:=Tryz.prog) (e:=3) (k:=1) (by kernel_rfl);obtain ⟨⟨nm,fr,til,mo,⟨d1,d2,d3⟩,⟨h1,h2⟩,sv,lt⟩,en,hx⟩:∃x e,ruleR ls=(x,e):=⟨_,_,rfl⟩;have HP:=hid (ruleParse_any b o k c ls w hT hr hn hl);rw [hx] at HP;simp only [ruleV,RuleP.cells] at HP;have HX:=hid (show ruleS st n ls=_ from by unfold ruleS;rw [hx]);have HRT:=hid (show RTypes 106 from by decide);have HS:=hid (And.intro (hblk) (And.intro (hrr) (Nat.le_trans hBg (Nat.le_of_lt hblk.lt))));have HN1:=hid (show st.s.rules.length≤1048576 from by have:=hsm.rules.1;omega);have HN2:=hid (show st.l.rules.length≤1048576 from by have:=hsm.rules.2;omega);have HSM:=hid hsm.rules.1;have HBG:=hid hBg;clear hx hr hn hl hm hsm hblk hrr hBg hT
 by_cases he:en=0
 ·subst he
  rw [if_neg (by simp)] at HX
  go_enter Tryz.func84,Tryz.ntmps84;go_wp2_with fail
  refine HP.out.mono ?_;rintro e1 w1 ⟨rfl,hb⟩;have HS1:=hid (And.intro (HS.out.1.below hb HS.out.1.lt) (And.intro (HS.out.2.1.below hb) (And.intro (Nat.le_trans HS.out.2.2 hb.size) (hb.mono HS.out.2.2))));clear hb HS HP
  go_upto_region 4 with fail
  have ha:Below w1.heap.size w1 (w1.alloc (.cells #[.string ⟨nm.toArray⟩,.int .i64 fr,.int .i64 til,.int .i64 mo,.int .i64 d1,.int .i64 d2,.int .i64 d3,.int .i64 h1,.int .i64 h2,.int .i64 sv,.string ⟨lt.toArray⟩] 55)):=(Below.refl _ _).alloc (Nat.le_refl _) _;have HB2:=hid (And.intro (HS1.out.1.below ha HS1.out.1.lt) (And.intro (HS1.out.2.1.below ha) (And.intro (HS1.out.2.2.2.trans (ha.mono HS1.out.2.2.1)) (And.intro (show (55≠0→Blk (w1.alloc (.cells #[.string ⟨nm.toArray⟩,.int .i64 fr,.int .i64 til,.int .i64 mo,.int .i64 d1,.int .i64 d2,.int .i64 d3,.int .i64 h1,.int .i64 h2,.int .i64 sv,.string ⟨lt.toArray⟩] 55)) w1.heap.size 55 #[.string ⟨nm.toArray⟩,.int .i64 fr,.int .i64 til,.int .i64 mo,.int .i64 d1,.int .i64 d2,.int .i64 d3,.int .i64 h1,.int .i64 h2,.int .i64 sv,.string ⟨lt.toArray⟩]) from fun _=>Blk.new' _ _ _ rfl) (show B≤(w1.alloc (.cells #[.string ⟨nm.toArray⟩,.int .i64 fr,.int .i64 til,.int .i64 mo,.int .i64 d1,.int .i64 d2,.int .i64 d3,.int .i64 h1,.int .i64 h2,.int .i64 sv,.string ⟨lt.toArray⟩] 55)).heap.size from by simp;have:=HS1.out.2.2.1;omega)))));have HGX:=hid (show lowV w1.heap.size v1 from lowV_of (HS1.out.2.1.rows.own _ (List.mem_of_getElem? (i:=0) rfl)));clear ha HS1;generalize w1.alloc (.cells #[.string ⟨nm.toArray⟩,.int .i64 fr,.int .i64 til,.int .i64 mo,.int .i64 d1,.int .i64 d2,.int .i64 d3,.int .i64 h1,.int .i64 h2,.int .i64 sv,.string ⟨lt.toArray⟩] 55)=w2 at *;generalize w1.heap.size=gx at *;obtain ⟨L,hL⟩:∃L,w2.heap.size=L:=⟨_,rfl⟩;have HLW:=hid (show LowRows L (rdRows st cur el ⟨v1,v2,v3,v4,u1,u2,u3,u4⟩) from by rw [←hL];exact HB2.out.2.1.rows.low);have HL1:=hid (show lowV L v1 from HLW.out _ (List.mem_of_getElem? (i:=0) rfl));have HL2:=hid (show lowV L u1 from HLW.out _ (List.mem_of_getElem? (i:=4) rfl));have HA12:=hid (show v1.ownBlock=none∨v1.ownBlock≠u1.ownBlock from rx_apart HB2.out.2.1 (i:=0) (j:=4) rfl rfl (by decide));have HA21:=hid (show u1.ownBlock=none∨u1.ownBlock≠v1.ownBlock from rx_apart HB2.out.2.1 (i:=4) (j:=0) rfl rfl (by decide));have HC:=hid (show CG B g L 106 w (fun uc=>#[uc,v2,v3,v4,u1,u2,u3,u4,.int .i64 n,.bool st.op]) st cur el ⟨v1,v2,v3,v4,u1,u2,u3,u4⟩ gx 55 #[.string ⟨nm.toArray⟩,.int .i64 fr,.int .i64 til,.int .i64 mo,.int .i64 d1,.int .i64 d2,.int .i64 d3,.int .i64 h1,.int .i64 h2,.int .i64 sv,.string ⟨lt.toArray⟩] v1 (GrownR 55 11 B L v1 (st.s.rules.length+1) (flatC RuleP.cells st.s.rules++(#[.string ⟨nm.toArray⟩,.int .i64 fr,.int .i64 til,.int .i64 mo,.int .i64 d1,.int .i64 d2,.int .i64 d3,.int .i64 h1,.int .i64 h2,.int .i64 sv,.string ⟨lt.toArray⟩]).toList)) false w2 from ⟨_,fun _=>rfl,fun e=>(by cases e),HB2.out.2.1,HB2.out.1,fun h0=>HB2.out.2.2.2.1 h0,HB2.out.2.2.1,by rw [←hL];exact Nat.le_refl _,by rw [←hL];exact HB2.out.2.2.2.2⟩);clear HB2 hL;refine wp_region_gate2 25 [[],[],[],[],[],[],[],[],[],[8],[],[],[],[],[],[],[],[],[],[],[19],[],[],[],[9]] [Form.val,Form.val,Form.val,Form.val,Form.val,Form.val,Form.val,Form.val,Form.rel (One 55 L #[.string ⟨nm.toArray⟩,.int .i64 fr,.int .i64 til,.int .i64 mo,.int .i64 d1,.int .i64 d2,.int .i64 d3,.int .i64 h1,.int .i64 h2,.int .i64 sv,.string ⟨lt.toArray⟩]),Form.rel (GrownR 55 11 B L v1 (st.s.rules.length+1) (flatC RuleP.cells st.s.rules++(#[.string ⟨nm.toArray⟩,.int .i64 fr,.int .i64 til,.int .i64 mo,.int .i64 d1,.int .i64 d2,.int .i64 d3,.int .i64 h1,.int .i64 h2,.int .i64 sv,.string ⟨lt.toArray⟩]).toList)),Form.val,Form.val,Form.val,Form.val,Form.val,Form.val,Form.val,Form.val,Form.val,Form.rel (One 3 L #[.int .i64 n]),Form.rel (GrownR 3 1 B L u1 (st.l.rules.length+1) (flatC encI st.l.rules++(#[.int .i64 n]:Array Value).toList)),Form.val,Form.val,Form.val,Form.val] (CG B g L 106 w (fun uc=>#[uc,v2,v3,v4,u1,u2,u3,u4,.int .i64 n,.bool st.op]) st cur el ⟨v1,v2,v3,v4,u1,u2,u3,u4⟩ gx 55 #[.string ⟨nm.toArray⟩,.int .i64 fr,.int .i64 til,.int .i64 mo,.int .i64 d1,.int .i64 d2,.int .i64 d3,.int .i64 h1,.int .i64 h2,.int .i64 sv,.string ⟨lt.toArray⟩] v1 (GrownR 55 11 B L v1 (st.s.rules.length+1) (flatC RuleP.cells st.s.rules++(#[.string ⟨nm.toArray⟩,.int .i64 fr,.int .i64 til,.int .i64 mo,.int .i64 d1,.int .i64 d2,.int .i64 d3,.int .i64 h1,.int .i64 h2,.int .i64 sv,.string ⟨lt.toArray⟩]).toList))) 9 20 24 55 11 B st.s.rules.length (flatC RuleP.cells st.s.rules) v1 3 1 B st.l.rules.length (flatC encI st.l.rules) u1 g 0 106 (GrownR 55 11 B L v1 (st.s.rules.length+1) (flatC RuleP.cells st.s.rules++(#[.string ⟨nm.toArray⟩,.int .i64 fr,.int .i64 til,.int .i64 mo,.int .i64 d1,.int .i64 d2,.int .i64 d3,.int .i64 h1,.int .i64 h2,.int .i64 sv,.string ⟨lt.toArray⟩]).toList)) (by kernel_rfl) (by kernel_rfl) rfl rfl (by decide) (by kernel_rfl) (by kernel_rfl) (by kernel_rfl) (HC.out.below GrownR.last (Below.refl _ _).drew) (fun b W W2 h hb=>h.below GrownR.last hb) (fun W W2 h hg=>h.kept HRT.out (i:=0) rfl (.inr HGX.out) hg) (fun W W2 h hg=>h.kept HRT.out (i:=4) rfl (.inl (by show 55≠3;decide)) hg) (fun W W2 h hs=>h.gate HRT.out (fun u u2=>rfl) (by decide) HBG.out (fun u W W2 hs hG=>hG.store (by decide) u W W2 hs) hs) ⟨lastb_all (One.last _ _ _) (one_other HL1.out) (one_other HL2.out) (one_store (by decide)),lastb_fst GrownR.last (GrownR.other HA12.out HL2.out) (GrownR.store (by decide)),lastb_all (One.last _ _ _) (one_other HL1.out) (one_other HL2.out) (one_store (by decide)),lastb_snd GrownR.last (GrownR.other HA21.out HL1.out) (GrownR.store (by decide)),trivial⟩ ?_
  repeat (first|apply exSpec_rel|apply exSpec_new|apply exSpec_val)
  apply relWalkB_ex rfl rfl ?oq0 (fun K hK=>?nq0)
  case oq0 =>
   intro b W hb hCC hF;obtain ⟨uc,hu0,hu1,hC⟩:=hCC;go_simp
   all_goals first|exact ⟨Below.refl _ _,rfl⟩|exact Below.refl _ _
  case' nq0 =>
   go_simp;refine hK _ ?_;clear hK K
  apply relWalkB_ex rfl rfl ?oq1 (fun K hK=>?nq1)
  case oq1 =>
   intro b W hb hCC hF;obtain ⟨uc,hu0,hu1,hC⟩:=hCC;go_simp
   all_goals first|exact ⟨Below.refl _ _,rfl⟩|exact Below.refl _ _
  case' nq1 =>
   go_simp;refine hK _ ?_;clear hK K
  apply relWalkB_ex rfl rfl ?oq2 (fun K hK=>?nq2)
  case oq2 =>
   intro b W hb hCC hF;obtain ⟨uc,hu0,hu1,hC⟩:=hCC;go_simp
   all_goals first|exact ⟨Below.refl _ _,rfl⟩|exact Below.refl _ _
  case' nq2 =>
   go_simp;refine hK _ ?_;clear hK K
  apply relWalkB_ex rfl rfl ?oq3 (fun K hK=>?nq3)
  case oq3 =>
   intro b W hb hCC hF;obtain ⟨uc,hu0,hu1,hC⟩:=hCC;go_simp
   all_goals first|exact ⟨Below.refl _ _,rfl⟩|exact Below.refl _ _
  case' nq3 =>
   go_simp;refine hK _ ?_;clear hK K
  apply relWalkB_ex rfl rfl ?oq4 (fun K hK=>?nq4)
  case oq4 =>
   intro b W hb hCC hF;obtain ⟨uc,hu0,hu1,hC⟩:=hCC;go_simp
   all_goals first|exact ⟨Below.refl _ _,rfl⟩|exact Below.refl _ _
  case' nq4 =>
   go_simp;refine hK _ ?_;clear hK K
  apply relWalkB_ex rfl rfl ?oq5 (fun K hK=>?nq5)
  case oq5 =>
   intro b W hb hCC hF;obtain ⟨uc,hu0,hu1,hC⟩:=hCC;go_simp
   all_goals first|exact ⟨Below.refl _ _,rfl⟩|exact Below.refl _ _
  case' nq5 =>
   go_simp;refine hK _ ?_;clear hK K
  apply relWalkB_ex rfl rfl ?oq6 (fun K hK=>?nq6)
  case oq6 =>
   intro b W hb hCC hF;obtain ⟨uc,hu0,hu1,hC⟩:=hCC;have hbf:=hb (by kernel_rfl);have hue:=hu0 hbf;subst hue;have z0:=hC.out.cell_ (i:=0) rfl;clear hu0 hu1 hbf hb;go_simp
   all_goals first|exact ⟨Below.refl _ _,rfl⟩|exact Below.refl _ _
  case' nq6 =>
   go_simp;refine hK _ ?_;clear hK K
  apply relWalkB_ex rfl rfl ?oq7 (fun K hK=>?nq7)
  case oq7 =>
   intro b W hb hCC hF;obtain ⟨uc,hu0,hu1,hC⟩:=hCC;exact relAt_load 55 (.tmp 5) rfl gx rfl 55 _ _ (hC.box (by decide)) Tryz.underlying55 rfl (by kernel_rfl)
  case' nq7 =>
   go_simp;refine hK _ ?_;clear hK K
  apply relWalkB_rel rfl rfl ?oq8 (fun u8 K hK=>?nq8)
  case oq8 =>
   intro b W hb hCC hF;obtain ⟨uc,hu0,hu1,hC⟩:=hCC;exact relAt_one rfl ix zx Tryz.underlying25 hix hzx #[.string ⟨nm.toArray⟩,.int .i64 fr,.int .i64 til,.int .i64 mo,.int .i64 d1,.int .i64 d2,.int .i64 d3,.int .i64 h1,.int .i64 h2,.int .i64 sv,.string ⟨lt.toArray⟩] rfl hszx hzcx (by simp) (by simp) L hC.lsz
  case' nq8 =>
   go_simp;refine hK _ ?_;clear hK K
  apply relWalkB_wr rfl rfl ?oq9 (fun u9 K hK=>?nq9)
  case oq9 =>
   intro b W hb hCC hF;obtain ⟨uc,hu0,hu1,hC⟩:=hCC;obtain ⟨⟨g1,rfl,hb1,hg1⟩,-⟩:=hF;exact relAtR_push2 rfl B L ix zx 11 Tryz.underlying25 hix hzx hszx hbyx hzcx (by decide) v1 st.s.rules.length (flatC RuleP.cells st.s.rules) rfl (hC.rr.rows.own _ (List.mem_of_getElem? (i:=0) rfl)) g1 1 #[.string ⟨nm.toArray⟩,.int .i64 fr,.int .i64 til,.int .i64 mo,.int .i64 d1,.int .i64 d2,.int .i64 d3,.int .i64 h1,.int .i64 h2,.int .i64 sv,.string ⟨lt.toArray⟩] rfl hb1 rfl (by simp [Value.oneCell']) HN1.out (Nat.le_trans hC.bl hC.lsz) hC.lsz (fun u W2 h=>h)
  case' nq9 =>
   go_simp;refine hK _ ?_;clear hK K
  apply relWalkB_ex rfl rfl ?oq10 (fun K hK=>?nq10)
  case oq10 =>
   intro b W hb hCC hF;obtain ⟨uc,hu0,hu1,hC⟩:=hCC;go_simp
   all_goals first|exact ⟨Below.refl _ _,rfl⟩|exact Below.refl _ _
  case' nq10 =>
   go_simp;refine hK _ ?_;clear hK K
  apply relWalkB_ex rfl rfl ?oq11 (fun K hK=>?nq11)
  case oq11 =>
   intro b W hb hCC hF;obtain ⟨uc,hu0,hu1,hC⟩:=hCC;go_simp
   all_goals first|exact ⟨Below.refl _ _,rfl⟩|exact Below.refl _ _
  case' nq11 =>
   go_simp;refine hK _ ?_;clear hK K
  apply relWalkB_ex rfl rfl ?oq12 (fun K hK=>?nq12)
  case oq12 =>
   intro b W hb hCC hF;obtain ⟨uc,hu0,hu1,hC⟩:=hCC;go_simp
   all_goals first|exact ⟨Below.refl _ _,rfl⟩|exact Below.refl _ _
  case' nq12 =>
   go_simp;refine hK _ ?_;clear hK K
  apply relWalkB_ex rfl rfl ?oq13 (fun K hK=>?nq13)
  case oq13 =>
   intro b W hb hCC hF;obtain ⟨uc,hu0,hu1,hC⟩:=hCC;go_simp
   all_goals first|exact ⟨Below.refl _ _,rfl⟩|exact Below.refl _ _
  case' nq13 =>
   go_simp;refine hK _ ?_;clear hK K
  apply relWalkB_ex rfl rfl ?oq14 (fun K hK=>?nq14)
  case oq14 =>
   intro b W hb hCC hF;obtain ⟨uc,hu0,hu1,hC⟩:=hCC;have z0:=hC.out.cell_ (i:=4) rfl;clear hu0 hu1;go_simp
   all_goals first|exact ⟨Below.refl _ _,rfl⟩|exact Below.refl _ _
  case' nq14 =>
   go_simp;refine hK _ ?_;clear hK K
  apply relWalkB_ex rfl rfl ?oq15 (fun K hK=>?nq15)
  case oq15 =>
   intro b W hb hCC hF;obtain ⟨uc,hu0,hu1,hC⟩:=hCC;go_simp
   all_goals first|exact ⟨Below.refl _ _,rfl⟩|exact Below.refl _ _
  case' nq15 =>
   go_simp;refine hK _ ?_;clear hK K
  apply relWalkB_ex rfl rfl ?oq16 (fun K hK=>?nq16)
  case oq16 =>
   intro b W hb hCC hF;obtain ⟨uc,hu0,hu1,hC⟩:=hCC;go_simp
   all_goals first|exact ⟨Below.refl _ _,rfl⟩|exact Below.refl _ _
  case' nq16 =>
   go_simp;refine hK _ ?_;clear hK K
  apply relWalkB_ex rfl rfl ?oq17 (fun K hK=>?nq17)
  case oq17 =>
   intro b W hb hCC hF;obtain ⟨uc,hu0,hu1,hC⟩:=hCC;go_simp
   all_goals first|exact ⟨Below.refl _ _,rfl⟩|exact Below.refl _ _
  case' nq17 =>
   go_simp;refine hK _ ?_;clear hK K
  apply relWalkB_ex rfl rfl ?oq18 (fun K hK=>?nq18)
  case oq18 =>
   intro b W hb hCC hF;obtain ⟨uc,hu0,hu1,hC⟩:=hCC;have z0:=hC.out.cell_ (i:=8) rfl;clear hu0 hu1;go_simp
   all_goals first|exact ⟨Below.refl _ _,rfl⟩|exact Below.refl _ _
  case' nq18 =>
   go_simp;refine hK _ ?_;clear hK K
  apply relWalkB_rel rfl rfl ?oq19 (fun u19 K hK=>?nq19)
  case oq19 =>
   intro b W hb hCC hF;obtain ⟨uc,hu0,hu1,hC⟩:=hCC;have hLs:=hC.lsz;go_simp;exact ⟨(Below.refl _ _).alloc (Nat.le_refl _) _,_,rfl,Blk.new' _ _ _ rfl,hLs⟩
  case' nq19 =>
   go_simp;refine hK _ ?_;clear hK K
  apply relWalkB_wr rfl rfl ?oq20 (fun u20 K hK=>?nq20)
  case oq20 =>
   intro b W hb hCC hF;obtain ⟨uc,hu0,hu1,hC⟩:=hCC;obtain ⟨⟨g1,rfl,hb1,hg1⟩,-⟩:=hF;exact relAtR_push2 rfl B L ii zi 1 Tryz.underlying32 hii hzi hszi hbyi hzci (by decide) u1 st.l.rules.length (flatC encI st.l.rules) rfl (hC.rr.rows.own _ (List.mem_of_getElem? (i:=4) rfl)) g1 1 #[.int .i64 n] rfl hb1 rfl (by simp [Value.oneCell']) HN2.out (Nat.le_trans hC.bl hC.lsz) hC.lsz (fun u W2 h=>h)
  case' nq20 =>
   go_simp;refine hK _ ?_;clear hK K
  apply relWalkB_ex rfl rfl ?oq21 (fun K hK=>?nq21)
  case oq21 =>
   intro b W hb hCC hF;obtain ⟨uc,hu0,hu1,hC⟩:=hCC;go_simp
   all_goals first|exact ⟨Below.refl _ _,rfl⟩|exact Below.refl _ _
  case' nq21 =>
   go_simp;refine hK _ ?_;clear hK K
  apply relWalkB_ex rfl rfl ?oq22 (fun K hK=>?nq22)
  case oq22 =>
   intro b W hb hCC hF;obtain ⟨uc,hu0,hu1,hC⟩:=hCC;go_simp
   all_goals first|exact ⟨Below.refl _ _,rfl⟩|exact Below.refl _ _
  case' nq22 =>
   go_simp;refine hK _ ?_;clear hK K
  apply relWalkB_ex rfl rfl ?oq23 (fun K hK=>?nq23)
  case oq23 =>
   intro b W hb hCC hF;obtain ⟨uc,hu0,hu1,hC⟩:=hCC;go_simp
   all_goals first|exact ⟨Below.refl _ _,rfl⟩|exact Below.refl _ _
  case' nq23 =>
   go_simp;refine hK _ ?_;clear hK K
  apply relWalkB_gate rfl rfl rfl ?oq24 (fun K hK=>?nq24)
  case oq24 =>
   intro W hCC hF;obtain ⟨uc,hu0,hu1,hC⟩:=hCC;obtain ⟨hg9,-⟩:=hF;obtain ⟨p9,d9,rfl⟩:=own_form hg9.1;have HA:=hid hg9;have z0:=hC.out.cell_ (i:=0) rfl;have f0:=hC.out.frozen 0;have HO:=hid hC.out;exact relAtR_store rfl (by kernel_rfl) g 0 _ _ _ _ rfl rfl z0 f0 ⟨⟨_,HO.out⟩,_,HA.out,rfl⟩ rfl
  case' nq24 =>
   go_simp;refine hK _ ?_;clear hK K
  apply relWalkB_end
  intro W hCC hF;obtain ⟨uc,-,hu1,hC⟩:=hCC;obtain ⟨h20,-,-,-⟩:=hF;have h9:=hu1 rfl;clear hu1;have HR:=hid (hC.rr.rule HLW.out (x:=⟨nm,fr,til,mo,⟨d1,d2,d3⟩,⟨h1,h2⟩,sv,lt⟩) (n:=n) (u:=uc) (u':=u20) (by unfold rRule Row.own;dsimp only;rw [List.length_append,flatC_snoc];exact h9.1) h9.2 (by unfold rInt Row.own;dsimp only;rw [List.length_append,flatC_snoc];exact h20.1) h20.2);obtain ⟨p9,d9,rfl⟩:=own_form h9.1;obtain ⟨p20,d20,rfl⟩:=own_form h20.1;have HW:=hid (And.intro hC.out (And.intro hC.bel hC.lsz));have z1:=hC.out.cell_ (i:=4) rfl;have f1:=hC.out.frozen 4;have z0:=hC.out.cell_ (i:=0) rfl;clear hC h20 h9 HC HA12 HA21 HL1 HL2 HLW HGX;have HF:=hid (fun W=>show Calls Tryz.prog 116 #[.int .i64 ((st.s.rules.length:Int)+1),.int .i64 2000] W fun e w'=>e=.returned (errV (if 2000<st.s.rules.length+1 then 7 else 0))∧W=w' from by have h:=sfew_any (st.s.rules.length+1) 2000 W (by have:=HSM.out;omega) (by decide);rw [Int.natCast_add] at h;exact h);obtain ⟨fe,hfe⟩:∃fe:Int,(if 2000<st.s.rules.length+1 then 7 else 0)=fe:=⟨_,rfl⟩;rw [hfe] at HX;simp only [hfe] at HF;clear hfe;go_wp2_with fail
  refine (HF.out _).mono ?_;rintro e2 w3 ⟨rfl,hw⟩;have hrr2:=HR.out.far HW.out.1 HRT.out (j:=4) (.slice p20 (st.l.rules.length+1) d20);have hbk:=HW.out.1.set_ 4 (.slice p20 (st.l.rules.length+1) d20);have hbl:=HW.out.2.1.setCell (p:=⟨g,4,none⟩) HBG.out (.slice p20 (st.l.rules.length+1) d20);rw [hw] at hrr2 hbk hbl;have HE:=hid (show RdG B g n (ruleS st n ls).1 w3∧Below B w w3 from ⟨⟨HBG.out,cur,el,⟨.slice p9 (st.s.rules.length+1) d9,v2,v3,v4,.slice p20 (st.l.rules.length+1) d20,u2,u3,u4⟩,by rw [HX.out];exact hbk,by rw [HX.out];exact hrr2⟩,hbl⟩);clear hrr2 hbk hbl hw HR HW HF;go_wp2_with fail
  go_ret
  exact ⟨by rw [HX.out];rfl,HE.out.1,HE.out.2⟩
 ·rw [if_pos he] at HX
  have hq:(en != 0)=true:=by simp [he]
  have hq2:(en==0)=false:=by simp [he]
  clear he
  go_enter Tryz.func84,Tryz.ntmps84;go_wp2_with fail
  refine HP.out.mono ?_;rintro e1 w1 ⟨rfl,hb⟩;have HS1:=hid (And.intro (HS.out.1.below hb HS.out.1.lt) (And.intro (HS.out.2.1.below hb) (And.intro (Nat.le_trans HS.out.2.2 hb.size) (hb.mono HS.out.2.2))));clear hb HS HP;have ha:Below w1.heap.size w1 (w1.alloc (.cells #[.string ⟨nm.toArray⟩,.int .i64 fr,.int .i64 til,.int .i64 mo,.int .i64 d1,.int .i64 d2,.int .i64 d3,.int .i64 h1,.int .i64 h2,.int .i64 sv,.string ⟨lt.toArray⟩] 55)):=(Below.refl _ _).alloc (Nat.le_refl _) _;have HS2:=hid (And.intro (show RdG B g n st (w1.alloc (.cells #[.string ⟨nm.toArray⟩,.int .i64 fr,.int .i64 til,.int .i64 mo,.int .i64 d1,.int .i64 d2,.int .i64 d3,.int .i64 h1,.int .i64 h2,.int .i64 sv,.string ⟨lt.toArray⟩] 55)) from ⟨HBG.out,cur,el,⟨v1,v2,v3,v4,u1,u2,u3,u4⟩,HS1.out.1.below ha HS1.out.1.lt,HS1.out.2.1.below ha⟩) (HS1.out.2.2.2.trans (ha.mono HS1.out.2.2.1)));clear ha HS1;go_wp2_with fail
  refine (wrong_any en _).mono ?_;rintro e2 w3 ⟨rfl,rfl⟩;go_wp2_with fail
  go_ret
  exact ⟨by rw [HX.out];rfl,by rw [HX.out];exact HS2.out.1,HS2.out.2⟩
theorem slink_any (B g:Nat) (st:RdP) (n:Int) (b o k c:Nat) (ls:List (List UInt8)) (w:World) (h:RdG B g n st w) (hT:RTabs w) (hr:StrRow w b o ls) (hn:ls.length=k) (hl:∀l ∈ ls,l.length≤1048576) (hm:k≤1000000) (hsm:RdSm st) :
 Calls Tryz.prog 86 #[.pointer (some ⟨g,0,none⟩),.slice (some ⟨b,o,none⟩) k c] w fun e w'=>e=.returned (errV (linkS st n ls).2)∧RdG B g n (linkS st n ls).1 w'∧Below B w w':=by
 obtain ⟨hBg,cur,el,⟨v1,v2,v3,v4,u1,u2,u3,u4⟩,hblk,hrr⟩:=h;obtain ⟨ix,zx,hix,hzx,hszx,hbyx,hzcx⟩:=info_st (P:=Tryz.prog) (e:=64) (k:=2) (by kernel_rfl);obtain ⟨ii,zi,hii,hzi,hszi,hbyi,hzci⟩:=info_st (P:=Tryz.prog) (e:=3) (k:=1) (by kernel_rfl);obtain ⟨⟨nm,lt⟩,en,hx⟩:∃x e,linkR ls=(x,e):=⟨_,_,rfl⟩;have HP:=hid (llink_any (some ⟨b,o,none⟩) k c ls w ⟨fun _=>⟨b,o,rfl,hr⟩⟩ hn hl hm);rw [hx] at HP;simp only [LinkP.cells] at HP;have HX:=hid (show linkS st n ls=_ from by unfold linkS;rw [hx]);have HRT:=hid (show RTypes 106 from by decide);have HS:=hid (And.intro (hblk) (And.intro (hrr) (Nat.le_trans hBg (Nat.le_of_lt hblk.lt))));have HN1:=hid (show st.s.links.length≤1048576 from by have:=hsm.links.1;omega);have HN2:=hid (show st.l.links.length≤1048576 from by have:=hsm.links.2;omega);have HSM:=hid hsm.links.1;have HBG:=hid hBg;clear hx hr hn hl hm hsm hblk hrr hBg hT
 by_cases he:en=0
 ·subst he
  rw [if_neg (by simp)] at HX
  go_enter Tryz.func86,Tryz.ntmps86;go_wp2_with fail
  refine HP.out.mono ?_;rintro e1 w1 ⟨rfl,hb⟩;have HS1:=hid (And.intro (HS.out.1.below hb HS.out.1.lt) (And.intro (HS.out.2.1.below hb) (And.intro (Nat.le_trans HS.out.2.2 hb.size) (hb.mono HS.out.2.2))));clear hb HS HP
  go_upto_region 4 with fail
  have ha:Below w1.heap.size w1 (w1.alloc (.cells #[.string ⟨nm.toArray⟩,.string ⟨lt.toArray⟩] 64)):=(Below.refl _ _).alloc (Nat.le_refl _) _;have HB2:=hid (And.intro (HS1.out.1.below ha HS1.out.1.lt) (And.intro (HS1.out.2.1.below ha) (And.intro (HS1.out.2.2.2.trans (ha.mono HS1.out.2.2.1)) (And.intro (show (64≠0→Blk (w1.alloc (.cells #[.string ⟨nm.toArray⟩,.string ⟨lt.toArray⟩] 64)) w1.heap.size 64 #[.string ⟨nm.toArray⟩,.string ⟨lt.toArray⟩]) from fun _=>Blk.new' _ _ _ rfl) (show B≤(w1.alloc (.cells #[.string ⟨nm.toArray⟩,.string ⟨lt.toArray⟩] 64)).heap.size from by simp;have:=HS1.out.2.2.1;omega)))));have HGX:=hid (show lowV w1.heap.size v3 from lowV_of (HS1.out.2.1.rows.own _ (List.mem_of_getElem? (i:=2) rfl)));clear ha HS1;generalize w1.alloc (.cells #[.string ⟨nm.toArray⟩,.string ⟨lt.toArray⟩] 64)=w2 at *;generalize w1.heap.size=gx at *;obtain ⟨L,hL⟩:∃L,w2.heap.size=L:=⟨_,rfl⟩;have HLW:=hid (show LowRows L (rdRows st cur el ⟨v1,v2,v3,v4,u1,u2,u3,u4⟩) from by rw [←hL];exact HB2.out.2.1.rows.low);have HL1:=hid (show lowV L v3 from HLW.out _ (List.mem_of_getElem? (i:=2) rfl));have HL2:=hid (show lowV L u3 from HLW.out _ (List.mem_of_getElem? (i:=6) rfl));have HA12:=hid (show v3.ownBlock=none∨v3.ownBlock≠u3.ownBlock from rx_apart HB2.out.2.1 (i:=2) (j:=6) rfl rfl (by decide));have HA21:=hid (show u3.ownBlock=none∨u3.ownBlock≠v3.ownBlock from rx_apart HB2.out.2.1 (i:=6) (j:=2) rfl rfl (by decide));have HC:=hid (show CG B g L 106 w (fun uc=>#[v1,v2,uc,v4,u1,u2,u3,u4,.int .i64 n,.bool st.op]) st cur el ⟨v1,v2,v3,v4,u1,u2,u3,u4⟩ gx 64 #[.string ⟨nm.toArray⟩,.string ⟨lt.toArray⟩] v3 (GrownR 64 2 B L v3 (st.s.links.length+1) (flatC LinkP.cells st.s.links++(#[.string ⟨nm.toArray⟩,.string ⟨lt.toArray⟩]).toList)) false w2 from ⟨_,fun _=>rfl,fun e=>(by cases e),HB2.out.2.1,HB2.out.1,fun h0=>HB2.out.2.2.2.1 h0,HB2.out.2.2.1,by rw [←hL];exact Nat.le_refl _,by rw [←hL];exact HB2.out.2.2.2.2⟩);clear HB2 hL;refine wp_region_gate2 25 [[],[],[],[],[],[],[],[],[],[8],[],[],[],[],[],[],[],[],[],[],[19],[],[],[],[9]] [Form.val,Form.val,Form.val,Form.val,Form.val,Form.val,Form.val,Form.val,Form.rel (One 64 L #[.string ⟨nm.toArray⟩,.string ⟨lt.toArray⟩]),Form.rel (GrownR 64 2 B L v3 (st.s.links.length+1) (flatC LinkP.cells st.s.links++(#[.string ⟨nm.toArray⟩,.string ⟨lt.toArray⟩]).toList)),Form.val,Form.val,Form.val,Form.val,Form.val,Form.val,Form.val,Form.val,Form.val,Form.rel (One 3 L #[.int .i64 n]),Form.rel (GrownR 3 1 B L u3 (st.l.links.length+1) (flatC encI st.l.links++(#[.int .i64 n]:Array Value).toList)),Form.val,Form.val,Form.val,Form.val] (CG B g L 106 w (fun uc=>#[v1,v2,uc,v4,u1,u2,u3,u4,.int .i64 n,.bool st.op]) st cur el ⟨v1,v2,v3,v4,u1,u2,u3,u4⟩ gx 64 #[.string ⟨nm.toArray⟩,.string ⟨lt.toArray⟩] v3 (GrownR 64 2 B L v3 (st.s.links.length+1) (flatC LinkP.cells st.s.links++(#[.string ⟨nm.toArray⟩,.string ⟨lt.toArray⟩]).toList))) 9 20 24 64 2 B st.s.links.length (flatC LinkP.cells st.s.links) v3 3 1 B st.l.links.length (flatC encI st.l.links) u3 g 2 106 (GrownR 64 2 B L v3 (st.s.links.length+1) (flatC LinkP.cells st.s.links++(#[.string ⟨nm.toArray⟩,.string ⟨lt.toArray⟩]).toList)) (by kernel_rfl) (by kernel_rfl) rfl rfl (by decide) (by kernel_rfl) (by kernel_rfl) (by kernel_rfl) (HC.out.below GrownR.last (Below.refl _ _).drew) (fun b W W2 h hb=>h.below GrownR.last hb) (fun W W2 h hg=>h.kept HRT.out (i:=2) rfl (.inr HGX.out) hg) (fun W W2 h hg=>h.kept HRT.out (i:=6) rfl (.inl (by show 64≠3;decide)) hg) (fun W W2 h hs=>h.gate HRT.out (fun u u2=>rfl) (by decide) HBG.out (fun u W W2 hs hG=>hG.store (by decide) u W W2 hs) hs) ⟨lastb_all (One.last _ _ _) (one_other HL1.out) (one_other HL2.out) (one_store (by decide)),lastb_fst GrownR.last (GrownR.other HA12.out HL2.out) (GrownR.store (by decide)),lastb_all (One.last _ _ _) (one_other HL1.out) (one_other HL2.out) (one_store (by decide)),lastb_snd GrownR.last (GrownR.other HA21.out HL1.out) (GrownR.store (by decide)),trivial⟩ ?_
  repeat (first|apply exSpec_rel|apply exSpec_new|apply exSpec_val)
  apply relWalkB_ex rfl rfl ?oq0 (fun K hK=>?nq0)
  case oq0 =>
   intro b W hb hCC hF;obtain ⟨uc,hu0,hu1,hC⟩:=hCC;go_simp
   all_goals first|exact ⟨Below.refl _ _,rfl⟩|exact Below.refl _ _
  case' nq0 =>
   go_simp;refine hK _ ?_;clear hK K
  apply relWalkB_ex rfl rfl ?oq1 (fun K hK=>?nq1)
  case oq1 =>
   intro b W hb hCC hF;obtain ⟨uc,hu0,hu1,hC⟩:=hCC;go_simp
   all_goals first|exact ⟨Below.refl _ _,rfl⟩|exact Below.refl _ _
  case' nq1 =>
   go_simp;refine hK _ ?_;clear hK K
  apply relWalkB_ex rfl rfl ?oq2 (fun K hK=>?nq2)
  case oq2 =>
   intro b W hb hCC hF;obtain ⟨uc,hu0,hu1,hC⟩:=hCC;go_simp
   all_goals first|exact ⟨Below.refl _ _,rfl⟩|exact Below.refl _ _
  case' nq2 =>
   go_simp;refine hK _ ?_;clear hK K
  apply relWalkB_ex rfl rfl ?oq3 (fun K hK=>?nq3)
  case oq3 =>
   intro b W hb hCC hF;obtain ⟨uc,hu0,hu1,hC⟩:=hCC;go_simp
   all_goals first|exact ⟨Below.refl _ _,rfl⟩|exact Below.refl _ _
  case' nq3 =>
   go_simp;refine hK _ ?_;clear hK K
  apply relWalkB_ex rfl rfl ?oq4 (fun K hK=>?nq4)
  case oq4 =>
   intro b W hb hCC hF;obtain ⟨uc,hu0,hu1,hC⟩:=hCC;go_simp
   all_goals first|exact ⟨Below.refl _ _,rfl⟩|exact Below.refl _ _
  case' nq4 =>
   go_simp;refine hK _ ?_;clear hK K
  apply relWalkB_ex rfl rfl ?oq5 (fun K hK=>?nq5)
  case oq5 =>
   intro b W hb hCC hF;obtain ⟨uc,hu0,hu1,hC⟩:=hCC;go_simp
   all_goals first|exact ⟨Below.refl _ _,rfl⟩|exact Below.refl _ _
  case' nq5 =>
   go_simp;refine hK _ ?_;clear hK K
  apply relWalkB_ex rfl rfl ?oq6 (fun K hK=>?nq6)
  case oq6 =>
   intro b W hb hCC hF;obtain ⟨uc,hu0,hu1,hC⟩:=hCC;have hbf:=hb (by kernel_rfl);have hue:=hu0 hbf;subst hue;have z0:=hC.out.cell_ (i:=2) rfl;clear hu0 hu1 hbf hb;go_simp
   all_goals first|exact ⟨Below.refl _ _,rfl⟩|exact Below.refl _ _
  case' nq6 =>
   go_simp;refine hK _ ?_;clear hK K
  apply relWalkB_ex rfl rfl ?oq7 (fun K hK=>?nq7)
  case oq7 =>
   intro b W hb hCC hF;obtain ⟨uc,hu0,hu1,hC⟩:=hCC;exact relAt_load 64 (.tmp 5) rfl gx rfl 64 _ _ (hC.box (by decide)) Tryz.underlying64 rfl (by kernel_rfl)
  case' nq7 =>
   go_simp;refine hK _ ?_;clear hK K
  apply relWalkB_rel rfl rfl ?oq8 (fun u8 K hK=>?nq8)
  case oq8 =>
   intro b W hb hCC hF;obtain ⟨uc,hu0,hu1,hC⟩:=hCC;exact relAt_one rfl ix zx Tryz.underlying27 hix hzx #[.string ⟨nm.toArray⟩,.string ⟨lt.toArray⟩] rfl hszx hzcx (by simp) (by simp) L hC.lsz
  case' nq8 =>
   go_simp;refine hK _ ?_;clear hK K
  apply relWalkB_wr rfl rfl ?oq9 (fun u9 K hK=>?nq9)
  case oq9 =>
   intro b W hb hCC hF;obtain ⟨uc,hu0,hu1,hC⟩:=hCC;obtain ⟨⟨g1,rfl,hb1,hg1⟩,-⟩:=hF;exact relAtR_push2 rfl B L ix zx 2 Tryz.underlying27 hix hzx hszx hbyx hzcx (by decide) v3 st.s.links.length (flatC LinkP.cells st.s.links) rfl (hC.rr.rows.own _ (List.mem_of_getElem? (i:=2) rfl)) g1 1 #[.string ⟨nm.toArray⟩,.string ⟨lt.toArray⟩] rfl hb1 rfl (by simp [Value.oneCell']) HN1.out (Nat.le_trans hC.bl hC.lsz) hC.lsz (fun u W2 h=>h)
  case' nq9 =>
   go_simp;refine hK _ ?_;clear hK K
  apply relWalkB_ex rfl rfl ?oq10 (fun K hK=>?nq10)
  case oq10 =>
   intro b W hb hCC hF;obtain ⟨uc,hu0,hu1,hC⟩:=hCC;go_simp
   all_goals first|exact ⟨Below.refl _ _,rfl⟩|exact Below.refl _ _
  case' nq10 =>
   go_simp;refine hK _ ?_;clear hK K
  apply relWalkB_ex rfl rfl ?oq11 (fun K hK=>?nq11)
  case oq11 =>
   intro b W hb hCC hF;obtain ⟨uc,hu0,hu1,hC⟩:=hCC;go_simp
   all_goals first|exact ⟨Below.refl _ _,rfl⟩|exact Below.refl _ _
  case' nq11 =>
   go_simp;refine hK _ ?_;clear hK K
  apply relWalkB_ex rfl rfl ?oq12 (fun K hK=>?nq12)
  case oq12 =>
   intro b W hb hCC hF;obtain ⟨uc,hu0,hu1,hC⟩:=hCC;go_simp
   all_goals first|exact ⟨Below.refl _ _,rfl⟩|exact Below.refl _ _
  case' nq12 =>
   go_simp;refine hK _ ?_;clear hK K
  apply relWalkB_ex rfl rfl ?oq13 (fun K hK=>?nq13)
  case oq13 =>
   intro b W hb hCC hF;obtain ⟨uc,hu0,hu1,hC⟩:=hCC;go_simp
   all_goals first|exact ⟨Below.refl _ _,rfl⟩|exact Below.refl _ _
  case' nq13 =>
   go_simp;refine hK _ ?_;clear hK K
  apply relWalkB_ex rfl rfl ?oq14 (fun K hK=>?nq14)
  case oq14 =>
   intro b W hb hCC hF;obtain ⟨uc,hu0,hu1,hC⟩:=hCC;have z0:=hC.out.cell_ (i:=6) rfl;clear hu0 hu1;go_simp
   all_goals first|exact ⟨Below.refl _ _,rfl⟩|exact Below.refl _ _
  case' nq14 =>
   go_simp;refine hK _ ?_;clear hK K
  apply relWalkB_ex rfl rfl ?oq15 (fun K hK=>?nq15)
  case oq15 =>
   intro b W hb hCC hF;obtain ⟨uc,hu0,hu1,hC⟩:=hCC;go_simp
   all_goals first|exact ⟨Below.refl _ _,rfl⟩|exact Below.refl _ _
  case' nq15 =>
   go_simp;refine hK _ ?_;clear hK K
  apply relWalkB_ex rfl rfl ?oq16 (fun K hK=>?nq16)
  case oq16 =>
   intro b W hb hCC hF;obtain ⟨uc,hu0,hu1,hC⟩:=hCC;go_simp
   all_goals first|exact ⟨Below.refl _ _,rfl⟩|exact Below.refl _ _
  case' nq16 =>
   go_simp;refine hK _ ?_;clear hK K
  apply relWalkB_ex rfl rfl ?oq17 (fun K hK=>?nq17)
  case oq17 =>
   intro b W hb hCC hF;obtain ⟨uc,hu0,hu1,hC⟩:=hCC;go_simp
   all_goals first|exact ⟨Below.refl _ _,rfl⟩|exact Below.refl _ _
  case' nq17 =>
   go_simp;refine hK _ ?_;clear hK K
  apply relWalkB_ex rfl rfl ?oq18 (fun K hK=>?nq18)
  case oq18 =>
   intro b W hb hCC hF;obtain ⟨uc,hu0,hu1,hC⟩:=hCC;have z0:=hC.out.cell_ (i:=8) rfl;clear hu0 hu1;go_simp
   all_goals first|exact ⟨Below.refl _ _,rfl⟩|exact Below.refl _ _
  case' nq18 =>
   go_simp;refine hK _ ?_;clear hK K
  apply relWalkB_rel rfl rfl ?oq19 (fun u19 K hK=>?nq19)
  case oq19 =>
   intro b W hb hCC hF;obtain ⟨uc,hu0,hu1,hC⟩:=hCC;have hLs:=hC.lsz;go_simp;exact ⟨(Below.refl _ _).alloc (Nat.le_refl _) _,_,rfl,Blk.new' _ _ _ rfl,hLs⟩
  case' nq19 =>
   go_simp;refine hK _ ?_;clear hK K
  apply relWalkB_wr rfl rfl ?oq20 (fun u20 K hK=>?nq20)
  case oq20 =>
   intro b W hb hCC hF;obtain ⟨uc,hu0,hu1,hC⟩:=hCC;obtain ⟨⟨g1,rfl,hb1,hg1⟩,-⟩:=hF;exact relAtR_push2 rfl B L ii zi 1 Tryz.underlying32 hii hzi hszi hbyi hzci (by decide) u3 st.l.links.length (flatC encI st.l.links) rfl (hC.rr.rows.own _ (List.mem_of_getElem? (i:=6) rfl)) g1 1 #[.int .i64 n] rfl hb1 rfl (by simp [Value.oneCell']) HN2.out (Nat.le_trans hC.bl hC.lsz) hC.lsz (fun u W2 h=>h)
  case' nq20 =>
   go_simp;refine hK _ ?_;clear hK K
  apply relWalkB_ex rfl rfl ?oq21 (fun K hK=>?nq21)
  case oq21 =>
   intro b W hb hCC hF;obtain ⟨uc,hu0,hu1,hC⟩:=hCC;go_simp
   all_goals first|exact ⟨Below.refl _ _,rfl⟩|exact Below.refl _ _
  case' nq21 =>
   go_simp;refine hK _ ?_;clear hK K
  apply relWalkB_ex rfl rfl ?oq22 (fun K hK=>?nq22)
  case oq22 =>
   intro b W hb hCC hF;obtain ⟨uc,hu0,hu1,hC⟩:=hCC;go_simp
   all_goals first|exact ⟨Below.refl _ _,rfl⟩|exact Below.refl _ _
  case' nq22 =>
   go_simp;refine hK _ ?_;clear hK K
  apply relWalkB_ex rfl rfl ?oq23 (fun K hK=>?nq23)
  case oq23 =>
   intro b W hb hCC hF;obtain ⟨uc,hu0,hu1,hC⟩:=hCC;go_simp
   all_goals first|exact ⟨Below.refl _ _,rfl⟩|exact Below.refl _ _
  case' nq23 =>
   go_simp;refine hK _ ?_;clear hK K
  apply relWalkB_gate rfl rfl rfl ?oq24 (fun K hK=>?nq24)
  case oq24 =>
   intro W hCC hF;obtain ⟨uc,hu0,hu1,hC⟩:=hCC;obtain ⟨hg9,-⟩:=hF;obtain ⟨p9,d9,rfl⟩:=own_form hg9.1;have HA:=hid hg9;have z0:=hC.out.cell_ (i:=2) rfl;have f0:=hC.out.frozen 2;have HO:=hid hC.out;exact relAtR_store rfl (by kernel_rfl) g 2 _ _ _ _ rfl rfl z0 f0 ⟨⟨_,HO.out⟩,_,HA.out,rfl⟩ rfl
  case' nq24 =>
   go_simp;refine hK _ ?_;clear hK K
  apply relWalkB_end
  intro W hCC hF;obtain ⟨uc,-,hu1,hC⟩:=hCC;obtain ⟨h20,-,-,-⟩:=hF;have h9:=hu1 rfl;clear hu1;have HR:=hid (hC.rr.link HLW.out (x:=⟨nm,lt⟩) (n:=n) (u:=uc) (u':=u20) (by unfold rLink Row.own;dsimp only;rw [List.length_append,flatC_snoc];exact h9.1) h9.2 (by unfold rInt Row.own;dsimp only;rw [List.length_append,flatC_snoc];exact h20.1) h20.2);obtain ⟨p9,d9,rfl⟩:=own_form h9.1;obtain ⟨p20,d20,rfl⟩:=own_form h20.1;have HW:=hid (And.intro hC.out (And.intro hC.bel hC.lsz));have z1:=hC.out.cell_ (i:=6) rfl;have f1:=hC.out.frozen 6;have z0:=hC.out.cell_ (i:=2) rfl;clear hC h20 h9 HC HA12 HA21 HL1 HL2 HLW HGX;have HF:=hid (fun W=>show Calls Tryz.prog 116 #[.int .i64 ((st.s.links.length:Int)+1),.int .i64 1000] W fun e w'=>e=.returned (errV (if 1000<st.s.links.length+1 then 7 else 0))∧W=w' from by have h:=sfew_any (st.s.links.length+1) 1000 W (by have:=HSM.out;omega) (by decide);rw [Int.natCast_add] at h;exact h);obtain ⟨fe,hfe⟩:∃fe:Int,(if 1000<st.s.links.length+1 then 7 else 0)=fe:=⟨_,rfl⟩;rw [hfe] at HX;simp only [hfe] at HF;clear hfe;go_wp2_with fail
  refine (HF.out _).mono ?_;rintro e2 w3 ⟨rfl,hw⟩;have hrr2:=HR.out.far HW.out.1 HRT.out (j:=6) (.slice p20 (st.l.links.length+1) d20);have hbk:=HW.out.1.set_ 6 (.slice p20 (st.l.links.length+1) d20);have hbl:=HW.out.2.1.setCell (p:=⟨g,6,none⟩) HBG.out (.slice p20 (st.l.links.length+1) d20);rw [hw] at hrr2 hbk hbl;have HE:=hid (show RdG B g n (linkS st n ls).1 w3∧Below B w w3 from ⟨⟨HBG.out,cur,el,⟨v1,v2,.slice p9 (st.s.links.length+1) d9,v4,u1,u2,.slice p20 (st.l.links.length+1) d20,u4⟩,by rw [HX.out];exact hbk,by rw [HX.out];exact hrr2⟩,hbl⟩);clear hrr2 hbk hbl hw HR HW HF;go_wp2_with fail
  go_ret
  exact ⟨by rw [HX.out];rfl,HE.out.1,HE.out.2⟩
 ·rw [if_pos he] at HX
  have hq:(en != 0)=true:=by simp [he]
  have hq2:(en==0)=false:=by simp [he]
  clear he
  go_enter Tryz.func86,Tryz.ntmps86;go_wp2_with fail
  refine HP.out.mono ?_;rintro e1 w1 ⟨rfl,hb⟩;have HS1:=hid (And.intro (HS.out.1.below hb HS.out.1.lt) (And.intro (HS.out.2.1.below hb) (And.intro (Nat.le_trans HS.out.2.2 hb.size) (hb.mono HS.out.2.2))));clear hb HS HP;have ha:Below w1.heap.size w1 (w1.alloc (.cells #[.string ⟨nm.toArray⟩,.string ⟨lt.toArray⟩] 64)):=(Below.refl _ _).alloc (Nat.le_refl _) _;have HS2:=hid (And.intro (show RdG B g n st (w1.alloc (.cells #[.string ⟨nm.toArray⟩,.string ⟨lt.toArray⟩] 64)) from ⟨HBG.out,cur,el,⟨v1,v2,v3,v4,u1,u2,u3,u4⟩,HS1.out.1.below ha HS1.out.1.lt,HS1.out.2.1.below ha⟩) (HS1.out.2.2.2.trans (ha.mono HS1.out.2.2.1)));clear ha HS1;go_wp2_with fail
  refine (wrong_any en _).mono ?_;rintro e2 w3 ⟨rfl,rfl⟩;go_wp2_with fail
  go_ret
  exact ⟨by rw [HX.out];rfl,by rw [HX.out];exact HS2.out.1,HS2.out.2⟩
theorem sshift_any (B g:Nat) (st:RdP) (n:Int) (b o k c:Nat) (ls:List (List UInt8)) (w:World) (h:RdG B g n st w) (hT:RTabs w) (hr:StrRow w b o ls) (hn:ls.length=k) (hl:∀l ∈ ls,l.length≤1048576) (hm:k≤1000000) (hsm:RdSm st) :
 Calls Tryz.prog 87 #[.pointer (some ⟨g,0,none⟩),.slice (some ⟨b,o,none⟩) k c] w fun e w'=>e=.returned (errV (shiftS st n ls).2)∧RdG B g n (shiftS st n ls).1 w'∧Below B w w':=by
 obtain ⟨hBg,cur,el,⟨v1,v2,v3,v4,u1,u2,u3,u4⟩,hblk,hrr⟩:=h;obtain ⟨ix,zx,hix,hzx,hszx,hbyx,hzcx⟩:=info_st (P:=Tryz.prog) (e:=9) (k:=1) (by kernel_rfl);obtain ⟨ii,zi,hii,hzi,hszi,hbyi,hzci⟩:=info_st (P:=Tryz.prog) (e:=3) (k:=1) (by kernel_rfl);obtain ⟨x,en,hx⟩:∃x e,shiftR ls=(x,e):=⟨_,_,rfl⟩;have HP:=hid (lshift_any (some ⟨b,o,none⟩) k c ls w ⟨fun _=>⟨b,o,rfl,hr⟩⟩ hn hl hm);rw [hx] at HP;clear hT;have HX:=hid (show shiftS st n ls=_ from by unfold shiftS;rw [hx]);have HRT:=hid (show RTypes 106 from by decide);have HS:=hid (And.intro (hblk) (And.intro (hrr) (Nat.le_trans hBg (Nat.le_of_lt hblk.lt))));have HN1:=hid (show st.s.shifts.length≤1048576 from by have:=hsm.shifts.1;omega);have HN2:=hid (show st.l.shifts.length≤1048576 from by have:=hsm.shifts.2;omega);have HSM:=hid hsm.shifts.1;have HBG:=hid hBg;clear hx hr hn hl hm hsm hblk hrr hBg
 by_cases he:en=0
 ·subst he
  rw [if_neg (by simp)] at HX
  go_enter Tryz.func87,Tryz.ntmps87;go_wp2_with fail
  refine HP.out.mono ?_;rintro e1 w1 ⟨rfl,hb⟩;have HS1:=hid (And.intro (HS.out.1.below hb HS.out.1.lt) (And.intro (HS.out.2.1.below hb) (And.intro (Nat.le_trans HS.out.2.2 hb.size) (hb.mono HS.out.2.2))));clear hb HS HP
  go_upto_region 4 with fail
  have HB2:=hid (And.intro (HS1.out.1) (And.intro (HS1.out.2.1) (And.intro (HS1.out.2.2.2) (And.intro (show (0≠0→Blk w1 0 0 #[]) from fun h0=>absurd rfl h0) (HS1.out.2.2.1)))));clear HS1;obtain ⟨w2,rfl⟩:∃w2,w2=w1:=⟨_,rfl⟩;obtain ⟨L,hL⟩:∃L,w2.heap.size=L:=⟨_,rfl⟩;have HLW:=hid (show LowRows L (rdRows st cur el ⟨v1,v2,v3,v4,u1,u2,u3,u4⟩) from by rw [←hL];exact HB2.out.2.1.rows.low);have HL1:=hid (show lowV L v4 from HLW.out _ (List.mem_of_getElem? (i:=3) rfl));have HL2:=hid (show lowV L u4 from HLW.out _ (List.mem_of_getElem? (i:=7) rfl));have HA12:=hid (show v4.ownBlock=none∨v4.ownBlock≠u4.ownBlock from rx_apart HB2.out.2.1 (i:=3) (j:=7) rfl rfl (by decide));have HA21:=hid (show u4.ownBlock=none∨u4.ownBlock≠v4.ownBlock from rx_apart HB2.out.2.1 (i:=7) (j:=3) rfl rfl (by decide));have HC:=hid (show CG B g L 106 w (fun uc=>#[v1,v2,v3,uc,u1,u2,u3,u4,.int .i64 n,.bool st.op]) st cur el ⟨v1,v2,v3,v4,u1,u2,u3,u4⟩ 0 0 #[] v4 (GrownR 9 1 B L v4 (st.s.shifts.length+1) (flatC encS st.s.shifts++(#[.string ⟨x.toArray⟩]).toList)) false w2 from ⟨_,fun _=>rfl,fun e=>(by cases e),HB2.out.2.1,HB2.out.1,fun h0=>HB2.out.2.2.2.1 h0,HB2.out.2.2.1,by rw [←hL];exact Nat.le_refl _,by rw [←hL];exact HB2.out.2.2.2.2⟩);clear HB2 hL;refine wp_region_gate2 25 [[],[],[],[],[],[],[],[],[],[8],[],[],[],[],[],[],[],[],[],[],[19],[],[],[],[9]] [Form.val,Form.val,Form.val,Form.val,Form.val,Form.val,Form.val,Form.val,Form.rel (One 9 L #[.string ⟨x.toArray⟩]),Form.rel (GrownR 9 1 B L v4 (st.s.shifts.length+1) (flatC encS st.s.shifts++(#[.string ⟨x.toArray⟩]).toList)),Form.val,Form.val,Form.val,Form.val,Form.val,Form.val,Form.val,Form.val,Form.val,Form.rel (One 3 L #[.int .i64 n]),Form.rel (GrownR 3 1 B L u4 (st.l.shifts.length+1) (flatC encI st.l.shifts++(#[.int .i64 n]:Array Value).toList)),Form.val,Form.val,Form.val,Form.val] (CG B g L 106 w (fun uc=>#[v1,v2,v3,uc,u1,u2,u3,u4,.int .i64 n,.bool st.op]) st cur el ⟨v1,v2,v3,v4,u1,u2,u3,u4⟩ 0 0 #[] v4 (GrownR 9 1 B L v4 (st.s.shifts.length+1) (flatC encS st.s.shifts++(#[.string ⟨x.toArray⟩]).toList))) 9 20 24 9 1 B st.s.shifts.length (flatC encS st.s.shifts) v4 3 1 B st.l.shifts.length (flatC encI st.l.shifts) u4 g 3 106 (GrownR 9 1 B L v4 (st.s.shifts.length+1) (flatC encS st.s.shifts++(#[.string ⟨x.toArray⟩]).toList)) (by kernel_rfl) (by kernel_rfl) rfl rfl (by decide) (by kernel_rfl) (by kernel_rfl) (by kernel_rfl) (HC.out.below GrownR.last (Below.refl _ _).drew) (fun b W W2 h hb=>h.below GrownR.last hb) (fun W W2 h hg=>h.kept HRT.out (i:=3) rfl (.inl (by show 0≠9;decide)) hg) (fun W W2 h hg=>h.kept HRT.out (i:=7) rfl (.inl (by show 0≠3;decide)) hg) (fun W W2 h hs=>h.gate HRT.out (fun u u2=>rfl) (by decide) HBG.out (fun u W W2 hs hG=>hG.store (by decide) u W W2 hs) hs) ⟨lastb_all (One.last _ _ _) (one_other HL1.out) (one_other HL2.out) (one_store (by decide)),lastb_fst GrownR.last (GrownR.other HA12.out HL2.out) (GrownR.store (by decide)),lastb_all (One.last _ _ _) (one_other HL1.out) (one_other HL2.out) (one_store (by decide)),lastb_snd GrownR.last (GrownR.other HA21.out HL1.out) (GrownR.store (by decide)),trivial⟩ ?_
  repeat (first|apply exSpec_rel|apply exSpec_new|apply exSpec_val)
  apply relWalkB_ex rfl rfl ?oq0 (fun K hK=>?nq0)
  case oq0 =>
   intro b W hb hCC hF;obtain ⟨uc,hu0,hu1,hC⟩:=hCC;go_simp
   all_goals first|exact ⟨Below.refl _ _,rfl⟩|exact Below.refl _ _
  case' nq0 =>
   go_simp;refine hK _ ?_;clear hK K
  apply relWalkB_ex rfl rfl ?oq1 (fun K hK=>?nq1)
  case oq1 =>
   intro b W hb hCC hF;obtain ⟨uc,hu0,hu1,hC⟩:=hCC;go_simp
   all_goals first|exact ⟨Below.refl _ _,rfl⟩|exact Below.refl _ _
  case' nq1 =>
   go_simp;refine hK _ ?_;clear hK K
  apply relWalkB_ex rfl rfl ?oq2 (fun K hK=>?nq2)
  case oq2 =>
   intro b W hb hCC hF;obtain ⟨uc,hu0,hu1,hC⟩:=hCC;go_simp
   all_goals first|exact ⟨Below.refl _ _,rfl⟩|exact Below.refl _ _
  case' nq2 =>
   go_simp;refine hK _ ?_;clear hK K
  apply relWalkB_ex rfl rfl ?oq3 (fun K hK=>?nq3)
  case oq3 =>
   intro b W hb hCC hF;obtain ⟨uc,hu0,hu1,hC⟩:=hCC;go_simp
   all_goals first|exact ⟨Below.refl _ _,rfl⟩|exact Below.refl _ _
  case' nq3 =>
   go_simp;refine hK _ ?_;clear hK K
  apply relWalkB_ex rfl rfl ?oq4 (fun K hK=>?nq4)
  case oq4 =>
   intro b W hb hCC hF;obtain ⟨uc,hu0,hu1,hC⟩:=hCC;go_simp
   all_goals first|exact ⟨Below.refl _ _,rfl⟩|exact Below.refl _ _
  case' nq4 =>
   go_simp;refine hK _ ?_;clear hK K
  apply relWalkB_ex rfl rfl ?oq5 (fun K hK=>?nq5)
  case oq5 =>
   intro b W hb hCC hF;obtain ⟨uc,hu0,hu1,hC⟩:=hCC;go_simp
   all_goals first|exact ⟨Below.refl _ _,rfl⟩|exact Below.refl _ _
  case' nq5 =>
   go_simp;refine hK _ ?_;clear hK K
  apply relWalkB_ex rfl rfl ?oq6 (fun K hK=>?nq6)
  case oq6 =>
   intro b W hb hCC hF;obtain ⟨uc,hu0,hu1,hC⟩:=hCC;have hbf:=hb (by kernel_rfl);have hue:=hu0 hbf;subst hue;have z0:=hC.out.cell_ (i:=3) rfl;clear hu0 hu1 hbf hb;go_simp
   all_goals first|exact ⟨Below.refl _ _,rfl⟩|exact Below.refl _ _
  case' nq6 =>
   go_simp;refine hK _ ?_;clear hK K
  apply relWalkB_ex rfl rfl ?oq7 (fun K hK=>?nq7)
  case oq7 =>
   intro b W hb hCC hF;obtain ⟨uc,hu0,hu1,hC⟩:=hCC;go_simp
   all_goals first|exact ⟨Below.refl _ _,rfl⟩|exact Below.refl _ _
  case' nq7 =>
   go_simp;refine hK _ ?_;clear hK K
  apply relWalkB_rel rfl rfl ?oq8 (fun u8 K hK=>?nq8)
  case oq8 =>
   intro b W hb hCC hF;obtain ⟨uc,hu0,hu1,hC⟩:=hCC;have hLs:=hC.lsz;go_simp;exact ⟨(Below.refl _ _).alloc (Nat.le_refl _) _,_,rfl,Blk.new' _ _ _ rfl,hLs⟩
  case' nq8 =>
   go_simp;refine hK _ ?_;clear hK K
  apply relWalkB_wr rfl rfl ?oq9 (fun u9 K hK=>?nq9)
  case oq9 =>
   intro b W hb hCC hF;obtain ⟨uc,hu0,hu1,hC⟩:=hCC;obtain ⟨⟨g1,rfl,hb1,hg1⟩,-⟩:=hF;exact relAtR_push2 rfl B L ix zx 1 Tryz.underlying28 hix hzx hszx hbyx hzcx (by decide) v4 st.s.shifts.length (flatC encS st.s.shifts) rfl (hC.rr.rows.own _ (List.mem_of_getElem? (i:=3) rfl)) g1 1 #[.string ⟨x.toArray⟩] rfl hb1 rfl (by simp [Value.oneCell']) HN1.out (Nat.le_trans hC.bl hC.lsz) hC.lsz (fun u W2 h=>h)
  case' nq9 =>
   go_simp;refine hK _ ?_;clear hK K
  apply relWalkB_ex rfl rfl ?oq10 (fun K hK=>?nq10)
  case oq10 =>
   intro b W hb hCC hF;obtain ⟨uc,hu0,hu1,hC⟩:=hCC;go_simp
   all_goals first|exact ⟨Below.refl _ _,rfl⟩|exact Below.refl _ _
  case' nq10 =>
   go_simp;refine hK _ ?_;clear hK K
  apply relWalkB_ex rfl rfl ?oq11 (fun K hK=>?nq11)
  case oq11 =>
   intro b W hb hCC hF;obtain ⟨uc,hu0,hu1,hC⟩:=hCC;go_simp
   all_goals first|exact ⟨Below.refl _ _,rfl⟩|exact Below.refl _ _
  case' nq11 =>
   go_simp;refine hK _ ?_;clear hK K
  apply relWalkB_ex rfl rfl ?oq12 (fun K hK=>?nq12)
  case oq12 =>
   intro b W hb hCC hF;obtain ⟨uc,hu0,hu1,hC⟩:=hCC;go_simp
   all_goals first|exact ⟨Below.refl _ _,rfl⟩|exact Below.refl _ _
  case' nq12 =>
   go_simp;refine hK _ ?_;clear hK K
  apply relWalkB_ex rfl rfl ?oq13 (fun K hK=>?nq13)
  case oq13 =>
   intro b W hb hCC hF;obtain ⟨uc,hu0,hu1,hC⟩:=hCC;go_simp
   all_goals first|exact ⟨Below.refl _ _,rfl⟩|exact Below.refl _ _
  case' nq13 =>
   go_simp;refine hK _ ?_;clear hK K
  apply relWalkB_ex rfl rfl ?oq14 (fun K hK=>?nq14)
  case oq14 =>
   intro b W hb hCC hF;obtain ⟨uc,hu0,hu1,hC⟩:=hCC;have z0:=hC.out.cell_ (i:=7) rfl;clear hu0 hu1;go_simp
   all_goals first|exact ⟨Below.refl _ _,rfl⟩|exact Below.refl _ _
  case' nq14 =>
   go_simp;refine hK _ ?_;clear hK K
  apply relWalkB_ex rfl rfl ?oq15 (fun K hK=>?nq15)
  case oq15 =>
   intro b W hb hCC hF;obtain ⟨uc,hu0,hu1,hC⟩:=hCC;go_simp
   all_goals first|exact ⟨Below.refl _ _,rfl⟩|exact Below.refl _ _
  case' nq15 =>
   go_simp;refine hK _ ?_;clear hK K
  apply relWalkB_ex rfl rfl ?oq16 (fun K hK=>?nq16)
  case oq16 =>
   intro b W hb hCC hF;obtain ⟨uc,hu0,hu1,hC⟩:=hCC;go_simp
   all_goals first|exact ⟨Below.refl _ _,rfl⟩|exact Below.refl _ _
  case' nq16 =>
   go_simp;refine hK _ ?_;clear hK K
  apply relWalkB_ex rfl rfl ?oq17 (fun K hK=>?nq17)
  case oq17 =>
   intro b W hb hCC hF;obtain ⟨uc,hu0,hu1,hC⟩:=hCC;go_simp
   all_goals first|exact ⟨Below.refl _ _,rfl⟩|exact Below.refl _ _
  case' nq17 =>
   go_simp;refine hK _ ?_;clear hK K
  apply relWalkB_ex rfl rfl ?oq18 (fun K hK=>?nq18)
  case oq18 =>
   intro b W hb hCC hF;obtain ⟨uc,hu0,hu1,hC⟩:=hCC;have z0:=hC.out.cell_ (i:=8) rfl;clear hu0 hu1;go_simp
   all_goals first|exact ⟨Below.refl _ _,rfl⟩|exact Below.refl _ _
  case' nq18 =>
   go_simp;refine hK _ ?_;clear hK K
  apply relWalkB_rel rfl rfl ?oq19 (fun u19 K hK=>?nq19)
  case oq19 =>
   intro b W hb hCC hF;obtain ⟨uc,hu0,hu1,hC⟩:=hCC;have hLs:=hC.lsz;go_simp;exact ⟨(Below.refl _ _).alloc (Nat.le_refl _) _,_,rfl,Blk.new' _ _ _ rfl,hLs⟩
  case' nq19 =>
   go_simp;refine hK _ ?_;clear hK K
  apply relWalkB_wr rfl rfl ?oq20 (fun u20 K hK=>?nq20)
  case oq20 =>
   intro b W hb hCC hF;obtain ⟨uc,hu0,hu1,hC⟩:=hCC;obtain ⟨⟨g1,rfl,hb1,hg1⟩,-⟩:=hF;exact relAtR_push2 rfl B L ii zi 1 Tryz.underlying32 hii hzi hszi hbyi hzci (by decide) u4 st.l.shifts.length (flatC encI st.l.shifts) rfl (hC.rr.rows.own _ (List.mem_of_getElem? (i:=7) rfl)) g1 1 #[.int .i64 n] rfl hb1 rfl (by simp [Value.oneCell']) HN2.out (Nat.le_trans hC.bl hC.lsz) hC.lsz (fun u W2 h=>h)
  case' nq20 =>
   go_simp;refine hK _ ?_;clear hK K
  apply relWalkB_ex rfl rfl ?oq21 (fun K hK=>?nq21)
  case oq21 =>
   intro b W hb hCC hF;obtain ⟨uc,hu0,hu1,hC⟩:=hCC;go_simp
   all_goals first|exact ⟨Below.refl _ _,rfl⟩|exact Below.refl _ _
  case' nq21 =>
   go_simp;refine hK _ ?_;clear hK K
  apply relWalkB_ex rfl rfl ?oq22 (fun K hK=>?nq22)
  case oq22 =>
   intro b W hb hCC hF;obtain ⟨uc,hu0,hu1,hC⟩:=hCC;go_simp
   all_goals first|exact ⟨Below.refl _ _,rfl⟩|exact Below.refl _ _
  case' nq22 =>
   go_simp;refine hK _ ?_;clear hK K
  apply relWalkB_ex rfl rfl ?oq23 (fun K hK=>?nq23)
  case oq23 =>
   intro b W hb hCC hF;obtain ⟨uc,hu0,hu1,hC⟩:=hCC;go_simp
   all_goals first|exact ⟨Below.refl _ _,rfl⟩|exact Below.refl _ _
  case' nq23 =>
   go_simp;refine hK _ ?_;clear hK K
  apply relWalkB_gate rfl rfl rfl ?oq24 (fun K hK=>?nq24)
  case oq24 =>
   intro W hCC hF;obtain ⟨uc,hu0,hu1,hC⟩:=hCC;obtain ⟨hg9,-⟩:=hF;obtain ⟨p9,d9,rfl⟩:=own_form hg9.1;have HA:=hid hg9;have z0:=hC.out.cell_ (i:=3) rfl;have f0:=hC.out.frozen 3;have HO:=hid hC.out;exact relAtR_store rfl (by kernel_rfl) g 3 _ _ _ _ rfl rfl z0 f0 ⟨⟨_,HO.out⟩,_,HA.out,rfl⟩ rfl
  case' nq24 =>
   go_simp;refine hK _ ?_;clear hK K
  apply relWalkB_end
  intro W hCC hF;obtain ⟨uc,-,hu1,hC⟩:=hCC;obtain ⟨h20,-,-,-⟩:=hF;have h9:=hu1 rfl;clear hu1;have HR:=hid (hC.rr.shift HLW.out (x:=x) (n:=n) (u:=uc) (u':=u20) (by unfold rStr Row.own;dsimp only;rw [List.length_append,flatC_snoc];exact h9.1) h9.2 (by unfold rInt Row.own;dsimp only;rw [List.length_append,flatC_snoc];exact h20.1) h20.2);obtain ⟨p9,d9,rfl⟩:=own_form h9.1;obtain ⟨p20,d20,rfl⟩:=own_form h20.1;have HW:=hid (And.intro hC.out (And.intro hC.bel hC.lsz));have z1:=hC.out.cell_ (i:=7) rfl;have f1:=hC.out.frozen 7;have z0:=hC.out.cell_ (i:=3) rfl;clear hC h20 h9 HC HA12 HA21 HL1 HL2 HLW;have HF:=hid (fun W=>show Calls Tryz.prog 116 #[.int .i64 ((st.s.shifts.length:Int)+1),.int .i64 2000] W fun e w'=>e=.returned (errV (if 2000<st.s.shifts.length+1 then 7 else 0))∧W=w' from by have h:=sfew_any (st.s.shifts.length+1) 2000 W (by have:=HSM.out;omega) (by decide);rw [Int.natCast_add] at h;exact h);obtain ⟨fe,hfe⟩:∃fe:Int,(if 2000<st.s.shifts.length+1 then 7 else 0)=fe:=⟨_,rfl⟩;rw [hfe] at HX;simp only [hfe] at HF;clear hfe;go_wp2_with fail
  refine (HF.out _).mono ?_;rintro e2 w3 ⟨rfl,hw⟩;have hrr2:=HR.out.far HW.out.1 HRT.out (j:=7) (.slice p20 (st.l.shifts.length+1) d20);have hbk:=HW.out.1.set_ 7 (.slice p20 (st.l.shifts.length+1) d20);have hbl:=HW.out.2.1.setCell (p:=⟨g,7,none⟩) HBG.out (.slice p20 (st.l.shifts.length+1) d20);rw [hw] at hrr2 hbk hbl;have HE:=hid (show RdG B g n (shiftS st n ls).1 w3∧Below B w w3 from ⟨⟨HBG.out,cur,el,⟨v1,v2,v3,.slice p9 (st.s.shifts.length+1) d9,u1,u2,u3,.slice p20 (st.l.shifts.length+1) d20⟩,by rw [HX.out];exact hbk,by rw [HX.out];exact hrr2⟩,hbl⟩);clear hrr2 hbk hbl hw HR HW HF;go_wp2_with fail
  go_ret
  exact ⟨by rw [HX.out];rfl,HE.out.1,HE.out.2⟩
 ·rw [if_pos he] at HX
  have hq:(en != 0)=true:=by simp [he]
  have hq2:(en==0)=false:=by simp [he]
  clear he
  go_enter Tryz.func87,Tryz.ntmps87;go_wp2_with fail
  refine HP.out.mono ?_;rintro e1 w1 ⟨rfl,hb⟩;have HS1:=hid (And.intro (HS.out.1.below hb HS.out.1.lt) (And.intro (HS.out.2.1.below hb) (And.intro (Nat.le_trans HS.out.2.2 hb.size) (hb.mono HS.out.2.2))));clear hb HS HP;have HS2:=hid (show RdG B g n st w1∧Below B w w1 from ⟨⟨HBG.out,cur,el,⟨v1,v2,v3,v4,u1,u2,u3,u4⟩,HS1.out.1,HS1.out.2.1⟩,HS1.out.2.2.2⟩);clear HS1;go_wp2_with fail
  refine (wrong_any en _).mono ?_;rintro e2 w3 ⟨rfl,rfl⟩;go_wp2_with fail
  go_ret
  exact ⟨by rw [HX.out];rfl,by rw [HX.out];exact HS2.out.1,HS2.out.2⟩
end Go.Proofs.YtboagmbmmoomiaaGreatDoor
