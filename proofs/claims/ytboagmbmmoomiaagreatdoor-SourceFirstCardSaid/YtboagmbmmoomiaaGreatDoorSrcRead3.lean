/-
  The reader of layer 13: a zone.
-/
import Derived.Test.YtboagmbmmoomiaaGreatDoorSrcRead2
set_option linter.unusedVariables false
set_option linter.unusedSimpArgs false
set_option maxRecDepth 100000
set_option maxHeartbeats 4000000
namespace Go.Proofs.YtboagmbmmoomiaaGreatDoor
open Go.Lib (hid)
open Go.RowKit Go.Shelf
theorem StrRow.same {w w':World} {b o T:Nat} {Y:Array Value} {ls:List (List UInt8)} (h:StrRow w b o ls) (h1:Blk w b T Y) (h2:Blk w' b T Y):StrRow w' b o ls:=⟨h2.lt,fun j l hl=>by rw [h2.cell,←h1.cell];exact h.at_ j l hl⟩
theorem RdSm.zone {st:RdP} (h:RdSm st) (h1:st.s.zones.length≤500∧st.l.eras.length≤500) (a:List UInt8):RdSm (st.zone a) :=
 ⟨h.rules,⟨by simp [RdP.zone];omega,by simp [RdP.zone];omega⟩,h.links,h.shifts,fun z hz=>(List.mem_append.1 hz).elim (h.eras z) (fun hz=>by rw [List.mem_singleton.1 hz];simp),fun l hl=>(List.mem_append.1 hl).elim (h.lines l) (fun hl=>by rw [List.mem_singleton.1 hl];simp)⟩
theorem RdAt.below {RT B g:Nat} {tl:List Value} {st:RdP} {W W':World} (h:RdAt RT B g tl st W) (hb:Below W.heap.size W W'):RdAt RT B g tl st W':=by
 obtain ⟨h1,cur,el,v,h2,h3⟩:=h;exact ⟨h1,cur,el,v,h2.below hb h2.lt,h3.below hb⟩
theorem eraS_zones (st:RdP) (n:Int) (f:List (List UInt8)):(eraS st n f).1.s.zones.length=st.s.zones.length:=by
 unfold eraS
 split
 ·rfl
 ·simp
theorem szone_yes (B g:Nat) (st:RdP) (n:Int) (b o c:Nat) (a:List UInt8) (f:List (List UInt8)) (w:World) (h:RdG B g n st w) (hT:∀W,Below w.heap.size w W∨Below B w W→ETabs W) (hr:StrRow w b o (a::f)) (hY:∃Y,Blk w b 9 Y) (hc:f.length+1≤c) (hc2:f.length+1≤1000000) (hl:∀l ∈ a::f,l.length≤1048576) (hsm:RdSm st) (hz5:st.s.zones.length≤500∧st.l.eras.length≤500) (hze:st.s.zones.length=st.l.eras.length) (hzb:zoneB a=true) :
 Calls Tryz.prog 85 #[.pointer (some ⟨g,0,none⟩),.slice (some ⟨b,o,none⟩) (f.length+1) c] w fun e w'=>e=.returned (errV (zoneS st n (a::f)).2)∧((zoneS st n (a::f)).2=0→RdG B g n (zoneS st n (a::f)).1 w')∧(∃st',RdG B g n st' w')∧Below B w w':=by
 obtain ⟨hBg,cur,el,⟨v1,v2,v3,v4,u1,u2,u3,u4⟩,hblk,hrr⟩:=h;obtain ⟨Y,hY⟩:=hY;obtain ⟨ix,zx,hix,hzx,hszx,hbyx,hzcx⟩:=info_st (P:=Tryz.prog) (e:=58) (k:=2) (by kernel_rfl);obtain ⟨ii,zi,hii,hzi,hszi,hbyi,hzci⟩:=info_st (P:=Tryz.prog) (e:=32) (k:=1) (by kernel_rfl);have HZ:=hid (zone_any ⟨a.toArray⟩ w (by simpa [ByteArray.size] using hl a (List.mem_cons_self ..)));rw [show (⟨a.toArray⟩:ByteArray).data.toList=a from by simp,hzb] at HZ;have HRT:=hid (show RTypes 106 from by decide);have HS:=hid (And.intro (hblk) (And.intro (hrr) (And.intro (Nat.le_trans hBg (Nat.le_of_lt hblk.lt)) (And.intro (hr) (hY)))));have HN1:=hid (show cur.length≤1048576 from by have:=hrr.zlen;omega);have HN2:=hid (show el.length≤1048576 from by have:=hrr.elen;omega);have HBG:=hid hBg;have HT:=hid hT;have HSM:=hid (hsm.zone hz5 a);have HL:=hid (fun l (hm:l ∈ f)=>hl l (List.mem_cons_of_mem _ hm));have HZE:=hid (And.intro hz5 hze);have z0:=hr.at_ 0 a rfl;rw [Nat.add_zero] at z0;have HX:=hid (show zoneS st n (a::f)=_ from by rw [zoneS,if_neg (by rw [hzb];decide)]);clear hr hl hT hsm hblk hrr hBg hY hz5 hze hzb
 go_enter Tryz.func85,Tryz.ntmps85;go_wp2_with fail
 refine HZ.out.mono ?_;rintro e1 w1 ⟨rfl,hb⟩;have HB2:=hid (And.intro (HS.out.1.below hb HS.out.1.lt) (And.intro (HS.out.2.1.below hb) (And.intro (Nat.le_trans HS.out.2.2.1 hb.size) (And.intro (HS.out.2.2.2.1.below hb) (And.intro (HS.out.2.2.2.2.below hb HS.out.2.2.2.2.lt) (hb.mono HS.out.2.2.1))))));clear hb HS HZ z0
 go_upto_region 5 with fail
 obtain ⟨L,hL⟩:∃L,w1.heap.size=L:=⟨_,rfl⟩;have HLW:=hid (show LowRows L (rdRows st cur el ⟨v1,v2,v3,v4,u1,u2,u3,u4⟩) from by rw [←hL];exact HB2.out.2.1.rows.low);have HL1:=hid (show lowV L v2 from HLW.out _ (List.mem_of_getElem? (i:=1) rfl));have HL2:=hid (show lowV L u2 from HLW.out _ (List.mem_of_getElem? (i:=5) rfl));have HA12:=hid (show v2.ownBlock=none∨v2.ownBlock≠u2.ownBlock from rx_apart HB2.out.2.1 (i:=1) (j:=5) rfl rfl (by decide));have HA21:=hid (show u2.ownBlock=none∨u2.ownBlock≠v2.ownBlock from rx_apart HB2.out.2.1 (i:=5) (j:=1) rfl rfl (by decide));have HROW:=hid HB2.out.2.2.2.1;have HYB:=hid HB2.out.2.2.2.2.1;have HC:=hid (show CG B g L 106 w (fun uc=>#[v1,uc,v3,v4,u1,u2,u3,u4,.int .i64 n,.bool st.op]) st cur el ⟨v1,v2,v3,v4,u1,u2,u3,u4⟩ b 9 Y v2 (GrownR 58 2 B L v2 (cur.length+1) (flatC encZV cur++(#[.string ⟨a.toArray⟩,.slice none 0 0]:Array Value).toList)) false w1 from ⟨_,fun _=>rfl,fun e=>(by cases e),HB2.out.2.1,HB2.out.1,fun h0=>HB2.out.2.2.2.2.1,HB2.out.2.2.2.2.2,by rw [←hL];exact Nat.le_refl _,by rw [←hL];exact HB2.out.2.2.1⟩);clear HB2 hL;refine wp_region_gate2 24 [[],[],[],[],[],[],[],[],[],[],[],[],[11],[],[],[],[],[],[],[18],[],[],[],[12]] [Form.val,Form.val,Form.val,Form.val,Form.val,Form.val,Form.val,Form.val,Form.val,Form.val,Form.val,Form.rel (One 58 L #[.string ⟨a.toArray⟩,.slice none 0 0]),Form.rel (GrownR 58 2 B L v2 (cur.length+1) (flatC encZV cur++(#[.string ⟨a.toArray⟩,.slice none 0 0]:Array Value).toList)),Form.val,Form.val,Form.val,Form.val,Form.val,Form.rel (One 32 L #[.slice none 0 0]),Form.rel (GrownR 32 1 B L u2 (el.length+1) (flatC encW el++(#[.slice none 0 0]:Array Value).toList)),Form.val,Form.val,Form.val,Form.val] (CG B g L 106 w (fun uc=>#[v1,uc,v3,v4,u1,u2,u3,u4,.int .i64 n,.bool st.op]) st cur el ⟨v1,v2,v3,v4,u1,u2,u3,u4⟩ b 9 Y v2 (GrownR 58 2 B L v2 (cur.length+1) (flatC encZV cur++(#[.string ⟨a.toArray⟩,.slice none 0 0]:Array Value).toList))) 12 19 23 58 2 B cur.length (flatC encZV cur) v2 32 1 B el.length (flatC encW el) u2 g 1 106 (GrownR 58 2 B L v2 (cur.length+1) (flatC encZV cur++(#[.string ⟨a.toArray⟩,.slice none 0 0]:Array Value).toList)) (by kernel_rfl) (by kernel_rfl) rfl rfl (by decide) (by kernel_rfl) (by kernel_rfl) (by kernel_rfl) (HC.out.below GrownR.last (Below.refl _ _).drew) (fun b W W2 h hb=>h.below GrownR.last hb) (fun W W2 h hg=>h.kept HRT.out (i:=1) rfl (.inl (by show 9≠58;decide)) hg) (fun W W2 h hg=>h.kept HRT.out (i:=5) rfl (.inl (by show 9≠32;decide)) hg) (fun W W2 h hs=>h.gate HRT.out (fun u u2=>rfl) (by decide) HBG.out (fun u W W2 hs hG=>hG.store (by decide) u W W2 hs) hs) ⟨lastb_all (One.last _ _ _) (one_other HL1.out) (one_other HL2.out) (one_store (by decide)),lastb_fst GrownR.last (GrownR.other HA12.out HL2.out) (GrownR.store (by decide)),lastb_all (One.last _ _ _) (one_other HL1.out) (one_other HL2.out) (one_store (by decide)),lastb_snd GrownR.last (GrownR.other HA21.out HL1.out) (GrownR.store (by decide)),trivial⟩ ?_
 repeat (first|apply exSpec_rel|apply exSpec_new|apply exSpec_val)
 apply relWalkB_ex rfl rfl ?oq0 (fun K hK=>?nq0)
 case oq0 =>
  intro b W hb hCC hF;obtain ⟨uc,hu0,hu1,hC⟩:=hCC;go_simp
  all_goals first|exact ⟨Below.refl _ _,rfl⟩|exact Below.refl _ _
 case' nq0 =>
  go_simp;refine hK _ ?_;clear hK K
 apply relWalkB_ex rfl rfl ?oq1 (fun K hK=>?nq1)
 case oq1 =>
  intro b W hb hCC hF;obtain ⟨uc,hu0,hu1,hC⟩:=hCC;go_simp
  all_goals first|exact ⟨Below.refl _ _,rfl⟩|exact Below.refl _ _
 case' nq1 =>
  go_simp;refine hK _ ?_;clear hK K
 apply relWalkB_ex rfl rfl ?oq2 (fun K hK=>?nq2)
 case oq2 =>
  intro b W hb hCC hF;obtain ⟨uc,hu0,hu1,hC⟩:=hCC;go_simp
  all_goals first|exact ⟨Below.refl _ _,rfl⟩|exact Below.refl _ _
 case' nq2 =>
  go_simp;refine hK _ ?_;clear hK K
 apply relWalkB_ex rfl rfl ?oq3 (fun K hK=>?nq3)
 case oq3 =>
  intro b W hb hCC hF;obtain ⟨uc,hu0,hu1,hC⟩:=hCC;go_simp
  all_goals first|exact ⟨Below.refl _ _,rfl⟩|exact Below.refl _ _
 case' nq3 =>
  go_simp;refine hK _ ?_;clear hK K
 apply relWalkB_ex rfl rfl ?oq4 (fun K hK=>?nq4)
 case oq4 =>
  intro b W hb hCC hF;obtain ⟨uc,hu0,hu1,hC⟩:=hCC;go_simp
  all_goals first|exact ⟨Below.refl _ _,rfl⟩|exact Below.refl _ _
 case' nq4 =>
  go_simp;refine hK _ ?_;clear hK K
 apply relWalkB_ex rfl rfl ?oq5 (fun K hK=>?nq5)
 case oq5 =>
  intro b W hb hCC hF;obtain ⟨uc,hu0,hu1,hC⟩:=hCC;go_simp
  all_goals first|exact ⟨Below.refl _ _,rfl⟩|exact Below.refl _ _
 case' nq5 =>
  go_simp;refine hK _ ?_;clear hK K
 apply relWalkB_ex rfl rfl ?oq6 (fun K hK=>?nq6)
 case oq6 =>
  intro b W hb hCC hF;obtain ⟨uc,hu0,hu1,hC⟩:=hCC;have hbf:=hb (by kernel_rfl);have hue:=hu0 hbf;subst hue;have z0:=hC.out.cell_ (i:=1) rfl;clear hu0 hu1 hbf hb;go_simp
  all_goals first|exact ⟨Below.refl _ _,rfl⟩|exact Below.refl _ _
 case' nq6 =>
  go_simp;refine hK _ ?_;clear hK K
 apply relWalkB_ex rfl rfl ?oq7 (fun K hK=>?nq7)
 case oq7 =>
  intro b W hb hCC hF;obtain ⟨uc,hu0,hu1,hC⟩:=hCC;go_simp
  all_goals first|exact ⟨Below.refl _ _,rfl⟩|exact Below.refl _ _
 case' nq7 =>
  go_simp;refine hK _ ?_;clear hK K
 apply relWalkB_ex rfl rfl ?oq8 (fun K hK=>?nq8)
 case oq8 =>
  intro b W hb hCC hF;obtain ⟨uc,hu0,hu1,hC⟩:=hCC;go_simp
  all_goals first|exact ⟨Below.refl _ _,rfl⟩|exact Below.refl _ _
 case' nq8 =>
  go_simp;refine hK _ ?_;clear hK K
 apply relWalkB_ex rfl rfl ?oq9 (fun K hK=>?nq9)
 case oq9 =>
  intro b W hb hCC hF;obtain ⟨uc,hu0,hu1,hC⟩:=hCC;have z0:=hC.box (by decide);have z1:=(HROW.out.same HYB.out z0).at_ 0 a rfl;rw [Nat.add_zero] at z1;clear z0 hu0 hu1;go_simp
  all_goals first|exact ⟨Below.refl _ _,rfl⟩|exact Below.refl _ _
 case' nq9 =>
  go_simp;refine hK _ ?_;clear hK K
 apply relWalkB_ex rfl rfl ?oq10 (fun K hK=>?nq10)
 case oq10 =>
  intro b W hb hCC hF;obtain ⟨uc,hu0,hu1,hC⟩:=hCC;go_simp
  all_goals first|exact ⟨Below.refl _ _,rfl⟩|exact Below.refl _ _
 case' nq10 =>
  go_simp;refine hK _ ?_;clear hK K
 apply relWalkB_rel rfl rfl ?oq11 (fun u11 K hK=>?nq11)
 case oq11 =>
  intro b W hb hCC hF;obtain ⟨uc,hu0,hu1,hC⟩:=hCC;exact relAt_one rfl ix zx Tryz.underlying26 hix hzx #[.string ⟨a.toArray⟩,.slice none 0 0] rfl hszx hzcx (by simp) (by simp) L hC.lsz
 case' nq11 =>
  go_simp;refine hK _ ?_;clear hK K
 apply relWalkB_wr rfl rfl ?oq12 (fun u12 K hK=>?nq12)
 case oq12 =>
  intro b W hb hCC hF;obtain ⟨uc,hu0,hu1,hC⟩:=hCC;obtain ⟨⟨g1,rfl,hb1,hg1⟩,-⟩:=hF;exact relAtR_push2 rfl B L ix zx 2 Tryz.underlying26 hix hzx hszx hbyx hzcx (by decide) v2 cur.length (flatC encZV cur) rfl (hC.rr.rows.own _ (List.mem_of_getElem? (i:=1) rfl)) g1 1 #[.string ⟨a.toArray⟩,.slice none 0 0] rfl hb1 rfl (by simp [Value.oneCell']) HN1.out (Nat.le_trans hC.bl hC.lsz) hC.lsz (fun u W2 h=>h)
 case' nq12 =>
  go_simp;refine hK _ ?_;clear hK K
 apply relWalkB_ex rfl rfl ?oq13 (fun K hK=>?nq13)
 case oq13 =>
  intro b W hb hCC hF;obtain ⟨uc,hu0,hu1,hC⟩:=hCC;go_simp
  all_goals first|exact ⟨Below.refl _ _,rfl⟩|exact Below.refl _ _
 case' nq13 =>
  go_simp;refine hK _ ?_;clear hK K
 apply relWalkB_ex rfl rfl ?oq14 (fun K hK=>?nq14)
 case oq14 =>
  intro b W hb hCC hF;obtain ⟨uc,hu0,hu1,hC⟩:=hCC;go_simp
  all_goals first|exact ⟨Below.refl _ _,rfl⟩|exact Below.refl _ _
 case' nq14 =>
  go_simp;refine hK _ ?_;clear hK K
 apply relWalkB_ex rfl rfl ?oq15 (fun K hK=>?nq15)
 case oq15 =>
  intro b W hb hCC hF;obtain ⟨uc,hu0,hu1,hC⟩:=hCC;go_simp
  all_goals first|exact ⟨Below.refl _ _,rfl⟩|exact Below.refl _ _
 case' nq15 =>
  go_simp;refine hK _ ?_;clear hK K
 apply relWalkB_ex rfl rfl ?oq16 (fun K hK=>?nq16)
 case oq16 =>
  intro b W hb hCC hF;obtain ⟨uc,hu0,hu1,hC⟩:=hCC;go_simp
  all_goals first|exact ⟨Below.refl _ _,rfl⟩|exact Below.refl _ _
 case' nq16 =>
  go_simp;refine hK _ ?_;clear hK K
 apply relWalkB_ex rfl rfl ?oq17 (fun K hK=>?nq17)
 case oq17 =>
  intro b W hb hCC hF;obtain ⟨uc,hu0,hu1,hC⟩:=hCC;have z0:=hC.out.cell_ (i:=5) rfl;clear hu0 hu1;go_simp
  all_goals first|exact ⟨Below.refl _ _,rfl⟩|exact Below.refl _ _
 case' nq17 =>
  go_simp;refine hK _ ?_;clear hK K
 apply relWalkB_rel rfl rfl ?oq18 (fun u18 K hK=>?nq18)
 case oq18 =>
  intro b W hb hCC hF;obtain ⟨uc,hu0,hu1,hC⟩:=hCC;have hLs:=hC.lsz;go_simp;exact ⟨(Below.refl _ _).alloc (Nat.le_refl _) _,_,rfl,Blk.new' _ _ _ rfl,hLs⟩
 case' nq18 =>
  go_simp;refine hK _ ?_;clear hK K
 apply relWalkB_wr rfl rfl ?oq19 (fun u19 K hK=>?nq19)
 case oq19 =>
  intro b W hb hCC hF;obtain ⟨uc,hu0,hu1,hC⟩:=hCC;obtain ⟨⟨g1,rfl,hb1,hg1⟩,-⟩:=hF;exact relAtR_push2 rfl B L ii zi 1 Tryz.underlying33 hii hzi hszi hbyi hzci (by decide) u2 el.length (flatC encW el) rfl (hC.rr.rows.own _ (List.mem_of_getElem? (i:=5) rfl)) g1 1 #[.slice none 0 0] rfl hb1 rfl (by simp [Value.oneCell']) HN2.out (Nat.le_trans hC.bl hC.lsz) hC.lsz (fun u W2 h=>h)
 case' nq19 =>
  go_simp;refine hK _ ?_;clear hK K
 apply relWalkB_ex rfl rfl ?oq20 (fun K hK=>?nq20)
 case oq20 =>
  intro b W hb hCC hF;obtain ⟨uc,hu0,hu1,hC⟩:=hCC;go_simp
  all_goals first|exact ⟨Below.refl _ _,rfl⟩|exact Below.refl _ _
 case' nq20 =>
  go_simp;refine hK _ ?_;clear hK K
 apply relWalkB_ex rfl rfl ?oq21 (fun K hK=>?nq21)
 case oq21 =>
  intro b W hb hCC hF;obtain ⟨uc,hu0,hu1,hC⟩:=hCC;go_simp
  all_goals first|exact ⟨Below.refl _ _,rfl⟩|exact Below.refl _ _
 case' nq21 =>
  go_simp;refine hK _ ?_;clear hK K
 apply relWalkB_ex rfl rfl ?oq22 (fun K hK=>?nq22)
 case oq22 =>
  intro b W hb hCC hF;obtain ⟨uc,hu0,hu1,hC⟩:=hCC;go_simp
  all_goals first|exact ⟨Below.refl _ _,rfl⟩|exact Below.refl _ _
 case' nq22 =>
  go_simp;refine hK _ ?_;clear hK K
 apply relWalkB_gate rfl rfl rfl ?oq23 (fun K hK=>?nq23)
 case oq23 =>
  intro W hCC hF;obtain ⟨uc,hu0,hu1,hC⟩:=hCC;obtain ⟨hg9,-⟩:=hF;obtain ⟨p9,d9,rfl⟩:=own_form hg9.1;have HA:=hid hg9;have z0:=hC.out.cell_ (i:=1) rfl;have f0:=hC.out.frozen 1;exact relAtR_store rfl (by kernel_rfl) g 1 _ _ _ _ rfl rfl z0 f0 ⟨⟨_,hC.out⟩,_,HA.out,rfl⟩ rfl
 case' nq23 =>
  go_simp;refine hK _ ?_;clear hK K
 apply relWalkB_end
 intro W hCC hF;obtain ⟨uc,-,hu1,hC⟩:=hCC;obtain ⟨h20,-,-,-⟩:=hF;have h9:=hu1 rfl;clear hu1;have HR:=hid (hC.rr.zone HLW.out (a:=a) (u:=uc) (u':=u19) (by unfold rZone Row.own;dsimp only;rw [List.length_append,flatC_snoc];exact h9.1) h9.2 (by unfold rIrow Row.own;dsimp only;rw [List.length_append,flatC_snoc];exact h20.1) h20.2);obtain ⟨p9,d9,rfl⟩:=own_form h9.1;obtain ⟨p20,d20,rfl⟩:=own_form h20.1;have HW:=hid (And.intro hC.out (And.intro hC.bel (And.intro hC.lsz (hC.box (by decide)))));have z1:=hC.out.cell_ (i:=5) rfl;have f1:=hC.out.frozen 5;clear hC h20 h9 HC HA12 HA21 HL1 HL2 HLW
 go_upto_region 6 with fail
 clear z1 f1;have hrr2:=HR.out.far HW.out.1 HRT.out (j:=5) (.slice p20 (el.length+1) d20);have hbk:=HW.out.1.set_ 5 (.slice p20 (el.length+1) d20);have hbl:=HW.out.2.1.setCell (p:=⟨g,5,none⟩) HBG.out (.slice p20 (el.length+1) d20);have hbb:=HW.out.2.2.2.far (p:=⟨g,5,none⟩) (fun hx=>absurd (rows_typ (by have hx:b=g:=hx;subst hx;exact HW.out.2.2.2) HW.out.1) (by show ¬9=106;decide)) (.slice p20 (el.length+1) d20);have HE:=hid (And.intro (show RdG B g n (st.zone a) (W.setCell ⟨g,5,none⟩ (.slice p20 (el.length+1) d20)) from ⟨HBG.out,_,_,⟨v1,.slice p9 (cur.length+1) d9,v3,v4,u1,.slice p20 (el.length+1) d20,u3,u4⟩,hbk,hrr2⟩) (And.intro (hbl) (HROW.out.same HYB.out hbb)));clear hrr2 hbk hbl hbb HR HW HROW HYB;generalize W.setCell ⟨g,5,none⟩ _=w4 at *;have hb1:(1:Int)≤(f.length:Int)+1:=by omega
 have hb2:(f.length:Int)+1≤(c:Int):=by omega
 have hb3:1≤c:=by omega
 obtain ⟨st2,en,hx⟩:∃st2 en,eraS (st.zone a) n f=(st2,en):=⟨_,_,rfl⟩;have HZL:=hid (show st2.s.zones.length=st.s.zones.length+1 from by have h:=eraS_zones (st.zone a) n f;rw [hx] at h;rw [h];simp [RdP.zone]);have HCE:=hid (fun (A:Option Addr) (c2:Nat) (hA:StrArg w4 A f)=>sera_any B g (st.zone a) n A f.length c2 f w4 HE.out.1 (HT.out _ (.inr HE.out.2.1)) hA rfl HL.out (by omega) HSM.out (by simp [RdP.zone]) (by have:=HZE.out.2;simp [RdP.zone];omega));simp only [hx] at HCE HX;have HA1:=hid (show StrArg w4 (some ⟨b,o+1,none⟩) f from ⟨fun _=>⟨b,o+1,rfl,HE.out.2.2.tail⟩⟩);have HA2:=hid (show c=1→StrArg w4 (some ⟨b,o,none⟩) f from fun h=>⟨fun h0=>absurd (List.eq_nil_of_length_eq_zero (by omega)) h0⟩);have HBW:=hid HE.out.2.1;clear hx HE HL HSM HT hc hc2
 by_cases he:en=0
 ·subst he
  rw [if_neg (by simp)] at HX
  by_cases hc1:c=1
  ·go_wp2_with fail
   refine (HCE.out _ _ (HA2.out hc1)).mono ?_;rintro e2 w5 ⟨rfl,hrd,hbl⟩;obtain ⟨-,cur2,el2,⟨v1_,v2_,v3_,v4_,u1_,u2_,u3_,u4_⟩,hblk2,hrr2⟩:=hrd;have hln:=hrr2.zlen;have ho2:=hrr2.rows.own _ (List.mem_of_getElem? (i:=1) rfl);obtain ⟨p2,d2,h2e⟩:=own_form ho2;replace h2e:v2_=.slice p2 cur2.length d2:=h2e;subst h2e;have z1:=hblk2.cell_ (i:=1) rfl;have HE2:=hid (show RdG B g n st2 w5∧Below B w w5 from ⟨⟨HBG.out,cur2,el2,_,hblk2,hrr2⟩,HBW.out.trans hbl⟩);obtain ⟨fe,hfe⟩:∃fe:Int,(if 500<cur2.length then 7 else 0)=fe:=⟨_,rfl⟩;rw [←HZL.out,←hln,hfe] at HX;have HF:=hid (fun W=>show Calls Tryz.prog 116 #[.int .i64 (cur2.length:Int),.int .i64 500] W fun e w'=>e=.returned (errV fe)∧W=w' from by have h:=sfew_any cur2.length 500 W (by have:=HZL.out;have:=HZE.out.1.1;omega) (by decide);rw [hfe] at h;exact h);clear hfe hln hblk2 hrr2 ho2 hbl;rw [show errV 0=.nilIface from rfl];go_wp2_with fail
   refine (HF.out _).mono ?_;rintro e3 w6 ⟨rfl,rfl⟩;clear z1;go_wp2_with fail
   go_ret
   exact ⟨by rw [HX.out];rfl,fun _=>by rw [HX.out];exact HE2.out.1,⟨_,HE2.out.1⟩,HE2.out.2⟩
  ·go_wp2_with fail
   refine (HCE.out _ _ HA1.out).mono ?_;rintro e2 w5 ⟨rfl,hrd,hbl⟩;obtain ⟨-,cur2,el2,⟨v1_,v2_,v3_,v4_,u1_,u2_,u3_,u4_⟩,hblk2,hrr2⟩:=hrd;have hln:=hrr2.zlen;have ho2:=hrr2.rows.own _ (List.mem_of_getElem? (i:=1) rfl);obtain ⟨p2,d2,h2e⟩:=own_form ho2;replace h2e:v2_=.slice p2 cur2.length d2:=h2e;subst h2e;have z1:=hblk2.cell_ (i:=1) rfl;have HE2:=hid (show RdG B g n st2 w5∧Below B w w5 from ⟨⟨HBG.out,cur2,el2,_,hblk2,hrr2⟩,HBW.out.trans hbl⟩);obtain ⟨fe,hfe⟩:∃fe:Int,(if 500<cur2.length then 7 else 0)=fe:=⟨_,rfl⟩;rw [←HZL.out,←hln,hfe] at HX;have HF:=hid (fun W=>show Calls Tryz.prog 116 #[.int .i64 (cur2.length:Int),.int .i64 500] W fun e w'=>e=.returned (errV fe)∧W=w' from by have h:=sfew_any cur2.length 500 W (by have:=HZL.out;have:=HZE.out.1.1;omega) (by decide);rw [hfe] at h;exact h);clear hfe hln hblk2 hrr2 ho2 hbl;rw [show errV 0=.nilIface from rfl];go_wp2_with fail
   refine (HF.out _).mono ?_;rintro e3 w6 ⟨rfl,rfl⟩;clear z1;go_wp2_with fail
   go_ret
   exact ⟨by rw [HX.out];rfl,fun _=>by rw [HX.out];exact HE2.out.1,⟨_,HE2.out.1⟩,HE2.out.2⟩
 ·rw [if_pos he] at HX
  have HEN:=hid he;clear he
  by_cases hc1:c=1
  ·go_wp2_with fail
   refine (HCE.out _ _ (HA2.out hc1)).mono ?_;rintro e2 w5 ⟨rfl,hrd,hbl⟩;have HE2:=hid (And.intro hrd (HBW.out.trans hbl));clear hrd hbl;rw [show errV en=.iface 38 (.int .i64 en) from if_neg HEN.out];go_wp2_with fail
   go_ret
   exact ⟨by rw [HX.out];show _=Ending.returned (errV en);rw [show errV en=.iface 38 (.int .i64 en) from if_neg HEN.out];rfl,fun h0=>by rw [HX.out] at h0;exact absurd h0 HEN.out,⟨_,HE2.out.1⟩,HE2.out.2⟩
  ·go_wp2_with fail
   refine (HCE.out _ _ HA1.out).mono ?_;rintro e2 w5 ⟨rfl,hrd,hbl⟩;have HE2:=hid (And.intro hrd (HBW.out.trans hbl));clear hrd hbl;rw [show errV en=.iface 38 (.int .i64 en) from if_neg HEN.out];go_wp2_with fail
   go_ret
   exact ⟨by rw [HX.out];show _=Ending.returned (errV en);rw [show errV en=.iface 38 (.int .i64 en) from if_neg HEN.out];rfl,fun h0=>by rw [HX.out] at h0;exact absurd h0 HEN.out,⟨_,HE2.out.1⟩,HE2.out.2⟩
theorem szone_any (B g:Nat) (st:RdP) (n:Int) (b o c k:Nat) (ls:List (List UInt8)) (w:World) (h:RdG B g n st w) (hT:∀W,Below w.heap.size w W∨Below B w W→ETabs W) (hr:StrRow w b o ls) (hn:ls.length=k) (hY:ls≠[]→∃Y,Blk w b 9 Y) (hc:k≤c) (hc2:k≤1000000) (hl:∀l ∈ ls,l.length≤1048576) (hsm:RdSm st) (hz5:st.s.zones.length≤500∧st.l.eras.length≤500) (hze:st.s.zones.length=st.l.eras.length) :
 Calls Tryz.prog 85 #[.pointer (some ⟨g,0,none⟩),.slice (some ⟨b,o,none⟩) k c] w fun e w'=>e=.returned (errV (zoneS st n ls).2)∧((zoneS st n ls).2=0→RdG B g n (zoneS st n ls).1 w')∧(∃st',RdG B g n st' w')∧Below B w w':=by
 cases ls with
 | nil =>
  subst hn;have HRD:=hid h;have HX:=hid (show zoneS st n []=(st,5) from rfl);clear h
  go_enter Tryz.func85,Tryz.ntmps85;go_wp2_with fail
  go_ret
  exact ⟨by rw [HX.out];rfl,(fun h0=>by rw [HX.out] at h0;cases h0),⟨st,HRD.out⟩,Below.refl _ _⟩
 | cons a f =>
  simp only [List.length_cons] at hn;subst hn
  cases hzb:zoneB a with
  | true=>exact szone_yes B g st n b o c a f w h hT hr (hY (by simp)) hc hc2 hl hsm hz5 hze hzb
  | false =>
   have HX:=hid (show zoneS st n (a::f)=(st,9) from by rw [zoneS,if_pos hzb]);have HZ:=hid (zone_any ⟨a.toArray⟩ w (by simpa [ByteArray.size] using hl a (List.mem_cons_self ..)));rw [show (⟨a.toArray⟩:ByteArray).data.toList=a from by simp,hzb] at HZ;have z0:=hr.at_ 0 a rfl;rw [Nat.add_zero] at z0;have hBw:B≤w.heap.size:=by obtain ⟨h1,_,_,_,h2,_⟩:=h;exact Nat.le_trans h1 (Nat.le_of_lt h2.lt)
   have HBW:=hid hBw;have HRD:=hid h;clear hr hl hT hsm h hz5 hze hzb hY hBw
   go_enter Tryz.func85,Tryz.ntmps85;go_wp2_with fail
   refine HZ.out.mono ?_;rintro e1 w1 ⟨rfl,hb⟩;clear z0;go_wp2_with fail
   go_ret
   exact ⟨by rw [HX.out];rfl,(fun h0=>by rw [HX.out] at h0;cases h0),⟨st,HRD.out.below hb⟩,hb.mono HBW.out⟩
end Go.Proofs.YtboagmbmmoomiaaGreatDoor
