/-
  The reference's reader of layer 13: a zone is read into rows of the call's own.
-/
import Derived.Test.YtciclddfhohieaaGreatDoorRef13b
import Derived.Test.YtciclddfhohieaaGreatDoorSrcRead3
set_option linter.unusedVariables false
set_option linter.unusedSimpArgs false
set_option maxRecDepth 100000
set_option maxHeartbeats 4000000
namespace Go.Proofs.YtciclddfhohieaaGreatDoor
open Go.RowKit Go.Shelf
theorem r13zone_yes (B g:Nat) (st:RdP) (n:Int) (b o c:Nat) (a:List UInt8) (f:List (List UInt8)) (w:World) (h:RdH B g st w) (hr:StrRow w b o (a::f)) (hY:∃Y,Blk w b 9 Y) (hc:f.length+1≤c) (hc2:f.length+1≤1000000) (hl:∀l ∈ a::f,l.length≤1048576) (hsm:RdSm st) (hz5:st.s.zones.length≤500∧st.l.eras.length≤500) (hze:st.s.zones.length=st.l.eras.length) (hzb:zoneB a=true) :
 Calls Tryz.prog 61 #[.pointer (some ⟨g,0,none⟩),.slice (some ⟨b,o,none⟩) (f.length+1) c,.int .i64 n] w fun e w'=>e=.returned (.int .i64 (zoneS st n (a::f)).2)∧((zoneS st n (a::f)).2=0→RdH B g (zoneS st n (a::f)).1 w')∧(∃st',RdH B g st' w')∧Below B w w':=by
 obtain ⟨hBg,cur,el,⟨v1,v2,v3,v4,u1,u2,u3,u4⟩,hblk,hrr⟩:=h;obtain ⟨Y,hY⟩:=hY;obtain ⟨ix,zx,hix,hzx,hszx,hbyx,hzcx⟩:=info_st (P:=Tryz.prog) (e:=52) (k:=2) (by kernel_rfl);obtain ⟨ii,zi,hii,hzi,hszi,hbyi,hzci⟩:=info_st (P:=Tryz.prog) (e:=29) (k:=1) (by kernel_rfl);have HZ:=Lib.hid (r7zone_any ⟨a.toArray⟩ w (by simpa [ByteArray.size] using hl a (List.mem_cons_self ..)));rw [show (⟨a.toArray⟩:ByteArray).data.toList=a from by simp,hzb] at HZ;have HRT:=Lib.hid (show RTypes 80 from by decide);have HX1:=Lib.hid (show RX B g w.heap.size 80 w #[v1,v2,v3,v4,u1,u2,u3,u4,.bool st.op] st cur el ⟨v1,v2,v3,v4,u1,u2,u3,u4⟩ b 9 Y w from ⟨hrr,hblk,fun _=>hY,Below.refl _ _,Nat.le_refl _,Nat.le_trans hBg (Nat.le_of_lt hblk.lt)⟩);have HN1:=Lib.hid (show cur.length≤1048576 from by have:=hrr.zlen;omega);have HN2:=Lib.hid (show el.length≤1048576 from by have:=hrr.elen;omega);have HBG:=Lib.hid hBg;have HSM:=Lib.hid (hsm.zone hz5 a);have HL:=Lib.hid (fun l (hm:l ∈ f)=>hl l (List.mem_cons_of_mem _ hm));have HZE:=Lib.hid (And.intro hz5 hze);have HROW:=Lib.hid hr;have HYB:=Lib.hid hY;have z0:=hr.at_ 0 a rfl;rw [Nat.add_zero] at z0;have HX:=Lib.hid (show zoneS st n (a::f)=_ from by rw [zoneS,if_neg (by rw [hzb];decide)]);clear hr hl hsm hblk hrr hBg hY hz5 hze hzb
 go_enter Tryz.func61,Tryz.ntmps61;go_wp2_with fail
 refine HZ.out.mono ?_;rintro e1 w1 ⟨rfl,rfl⟩;clear HZ
 go_upto_region 5 with fail
 clear z0;obtain ⟨L,hL⟩:∃L,w1.heap.size=L:=⟨_,rfl⟩;rw [hL] at HX1;have HLW:=Lib.hid (show LowRows L (rdRows st cur el ⟨v1,v2,v3,v4,u1,u2,u3,u4⟩) from by rw [←hL];exact HX1.out.rr.rows.low);have HL1:=Lib.hid (show lowV L v2 from HLW.out _ (List.mem_of_getElem? (i:=1) rfl));clear hL;refine wp_region_relsG 15 [[],[],[],[],[],[],[],[],[],[],[],[10],[],[],[]] [Form.val,Form.val,Form.val,Form.val,Form.val,Form.val,Form.val,Form.val,Form.val,Form.val,Form.rel (One 52 L #[.string ⟨a.toArray⟩,.slice none 0 0]),Form.rel (GrownR 52 2 B L v2 (cur.length+1) (flatC encZV cur++(#[.string ⟨a.toArray⟩,.slice none 0 0]:Array Value).toList)),Form.val,Form.val,Form.val] (fun W=>RX B g L 80 w1 #[v1,v2,v3,v4,u1,u2,u3,u4,.bool st.op] st cur el ⟨v1,v2,v3,v4,u1,u2,u3,u4⟩ b 9 Y W) (GOwn 52 2 B cur.length (flatC encZV cur) v2) 11 (by kernel_rfl) (by kernel_rfl) rfl rfl (HX1.out.below (Below.refl _ _).drew) GOwn.of_below (fun W W2 h=>h.1.size) (fun W W2 h hg=>h.kept HRT.out (i:=1) rfl (.inl (by show 9≠52;decide)) hg) ⟨(one_other HL1.out),GrownR.last,trivial⟩ ?_
 repeat (first|apply exSpec_rel|apply exSpec_new|apply exSpec_val)
 apply relWalkR_ex rfl rfl ?oq0 (fun K hK=>?nq0)
 case oq0 =>
  intro W hC hF;go_simp
  all_goals first|exact ⟨Below.refl _ _,rfl⟩|exact Below.refl _ _
 case' nq0 =>
  go_simp;refine hK _ ?_;clear hK K
 apply relWalkR_ex rfl rfl ?oq1 (fun K hK=>?nq1)
 case oq1 =>
  intro W hC hF;go_simp
  all_goals first|exact ⟨Below.refl _ _,rfl⟩|exact Below.refl _ _
 case' nq1 =>
  go_simp;refine hK _ ?_;clear hK K
 apply relWalkR_ex rfl rfl ?oq2 (fun K hK=>?nq2)
 case oq2 =>
  intro W hC hF;go_simp
  all_goals first|exact ⟨Below.refl _ _,rfl⟩|exact Below.refl _ _
 case' nq2 =>
  go_simp;refine hK _ ?_;clear hK K
 apply relWalkR_ex rfl rfl ?oq3 (fun K hK=>?nq3)
 case oq3 =>
  intro W hC hF;go_simp
  all_goals first|exact ⟨Below.refl _ _,rfl⟩|exact Below.refl _ _
 case' nq3 =>
  go_simp;refine hK _ ?_;clear hK K
 apply relWalkR_ex rfl rfl ?oq4 (fun K hK=>?nq4)
 case oq4 =>
  intro W hC hF;go_simp
  all_goals first|exact ⟨Below.refl _ _,rfl⟩|exact Below.refl _ _
 case' nq4 =>
  go_simp;refine hK _ ?_;clear hK K
 apply relWalkR_ex rfl rfl ?oq5 (fun K hK=>?nq5)
 case oq5 =>
  intro W hC hF;have z0:=hC.out.cell_ (i:=1) rfl;go_simp
  all_goals first|exact ⟨Below.refl _ _,rfl⟩|exact Below.refl _ _
 case' nq5 =>
  go_simp;refine hK _ ?_;clear hK K
 apply relWalkR_ex rfl rfl ?oq6 (fun K hK=>?nq6)
 case oq6 =>
  intro W hC hF;go_simp
  all_goals first|exact ⟨Below.refl _ _,rfl⟩|exact Below.refl _ _
 case' nq6 =>
  go_simp;refine hK _ ?_;clear hK K
 apply relWalkR_ex rfl rfl ?oq7 (fun K hK=>?nq7)
 case oq7 =>
  intro W hC hF;go_simp
  all_goals first|exact ⟨Below.refl _ _,rfl⟩|exact Below.refl _ _
 case' nq7 =>
  go_simp;refine hK _ ?_;clear hK K
 apply relWalkR_ex rfl rfl ?oq8 (fun K hK=>?nq8)
 case oq8 =>
  intro W hC hF;have z0:=hC.box (by decide);have z1:=(HROW.out.same HYB.out z0).at_ 0 a rfl;rw [Nat.add_zero] at z1;clear z0;go_simp
  all_goals first|exact ⟨Below.refl _ _,rfl⟩|exact Below.refl _ _
 case' nq8 =>
  go_simp;refine hK _ ?_;clear hK K
 apply relWalkR_ex rfl rfl ?oq9 (fun K hK=>?nq9)
 case oq9 =>
  intro W hC hF;go_simp
  all_goals first|exact ⟨Below.refl _ _,rfl⟩|exact Below.refl _ _
 case' nq9 =>
  go_simp;refine hK _ ?_;clear hK K
 apply relWalkR_rel rfl rfl ?oq10 (fun u10 K hK=>?nq10)
 case oq10 =>
  intro W hC hF;exact relAt_one rfl ix zx Tryz.underlying24 hix hzx #[.string ⟨a.toArray⟩,.slice none 0 0] rfl hszx hzcx (by simp) (by simp) L hC.lsz
 case' nq10 =>
  go_simp;refine hK _ ?_;clear hK K
 apply relWalkR_wr rfl rfl ?oq11 (fun u11 K hK=>?nq11)
 case oq11 =>
  intro W hC hF;obtain ⟨⟨g1,rfl,hb1,hg1⟩,-⟩:=hF;exact relAtR_push2 rfl B L ix zx 2 Tryz.underlying24 hix hzx hszx hbyx hzcx (by decide) v2 cur.length (flatC encZV cur) rfl (hC.rr.rows.own _ (List.mem_of_getElem? (i:=1) rfl)) g1 1 #[.string ⟨a.toArray⟩,.slice none 0 0] rfl hb1 rfl (by simp [Value.oneCell']) HN1.out (Nat.le_trans hC.bl hC.lsz) hC.lsz (fun u W2 h=>h)
 case' nq11 =>
  go_simp;refine hK _ ?_;clear hK K
 apply relWalkR_ex rfl rfl ?oq12 (fun K hK=>?nq12)
 case oq12 =>
  intro W hC hF;go_simp
  all_goals first|exact ⟨Below.refl _ _,rfl⟩|exact Below.refl _ _
 case' nq12 =>
  go_simp;refine hK _ ?_;clear hK K
 apply relWalkR_ex rfl rfl ?oq13 (fun K hK=>?nq13)
 case oq13 =>
  intro W hC hF;go_simp
  all_goals first|exact ⟨Below.refl _ _,rfl⟩|exact Below.refl _ _
 case' nq13 =>
  go_simp;refine hK _ ?_;clear hK K
 apply relWalkR_ex rfl rfl ?oq14 (fun K hK=>?nq14)
 case oq14 =>
  intro W hC hF;go_simp
  all_goals first|exact ⟨Below.refl _ _,rfl⟩|exact Below.refl _ _
 case' nq14 =>
  go_simp;refine hK _ ?_;clear hK K
 apply relWalkR_end
 intro W hC hF hU;have h11:=hF.1;have hrr1:=hC.rr.zone1 HLW.out (a:=a) (u:=u11) (by unfold rZone Row.own;dsimp only;rw [List.length_append,flatC_snoc];exact h11.1) h11.2;obtain ⟨p11,d11,rfl⟩:=own_form h11.1;have HX2:=Lib.hid (hC.put (j:=1) (u:=.slice p11 (cur.length+1) d11) (RC':=#[v1,.slice p11 (cur.length+1) d11,v3,v4,u1,u2,u3,u4,.bool st.op]) hrr1 HRT.out (by decide) HBG.out rfl).now;have z0:=hC.out.cell_ (i:=1) rfl;have f0:=hC.out.frozen 1;clear hC hF hU h11 hrr1 HX1 HLW HL1
 go_upto_region 6 with fail
 clear z0 f0;generalize W.setCell ⟨g,1,none⟩ _=wa at *;have HL2:=Lib.hid (HX2.out.rr.rows.low);have z0:=HX2.out.out.cell_ (i:=5) rfl;go_wp2_with (first|(at_builtin;refine wpList_append_push rfl (.tmp 36) (.tmp 37) 30 29 rfl B wa.heap.size ii zi 1 Tryz.underlying30 hii hzi hszi hbyi hzci (by decide) u2 el.length (flatC encW el) rfl ((HX2.out.below ((Below.refl _ _).alloc (Nat.le_refl _) (.cells #[.slice none 0 0] 29))).rr.rows.own _ (List.mem_of_getElem? (i:=5) rfl)) wa.heap.size 1 #[.slice none 0 0] rfl (Blk.new' _ _ _ rfl) rfl (by simp [Value.oneCell']) HN2.out (by have h1:=HX2.out.bl;have h2:=HX2.out.lsz;simp;omega) (by simp) ?_)|fail)
 intro u6 w6 hgr hgo;clear z0;have hX:=(HX2.out.below ((Below.refl _ _).alloc (Nat.le_refl _) (.cells #[.slice none 0 0] 29))).kept HRT.out (i:=5) rfl (.inl (by show 9≠29;decide)) hgo;have hrr:=hX.rr.zoneN (L:=wa.heap.size) HL2.out (u:=u6) (by unfold rIrow Row.own;dsimp only;rw [List.length_append,flatC_snoc];exact hgr.1) hgr.2;obtain ⟨p6,d6,rfl⟩:=own_form hgr.1;have z1:=hX.out.cell_ (i:=5) rfl;have f1:=hX.out.frozen 5;have HX3:=Lib.hid (hX.put (j:=5) (u:=.slice p6 (el.length+1) d6) (RC':=#[v1,.slice p11 (cur.length+1) d11,v3,v4,u1,.slice p6 (el.length+1) d6,u3,u4,.bool st.op]) hrr HRT.out (by decide) HBG.out rfl).now;clear hX hrr hgr hgo HL2 HX2
 go_upto_region 7 with fail
 clear z1 f1;generalize w6.setCell ⟨g,5,none⟩ _=w4 at *;have HE:=Lib.hid (show RdH B g (st.zone a) w4∧Below B w1 w4∧StrRow w4 b o (a::f) from ⟨⟨HBG.out,_,_,⟨v1,.slice p11 (cur.length+1) d11,v3,v4,u1,.slice p6 (el.length+1) d6,u3,u4⟩,HX3.out.out,HX3.out.rr⟩,HX3.out.bel,HROW.out.same HYB.out (HX3.out.box (by decide))⟩);clear HX3 HROW HYB;have hb1:(1:Int)≤(f.length:Int)+1:=by omega
 have hb2:(f.length:Int)+1≤(c:Int):=by omega
 have hb3:1≤c:=by omega
 obtain ⟨st2,en,hx⟩:∃st2 en,eraS (st.zone a) n f=(st2,en):=⟨_,_,rfl⟩;have HZL:=Lib.hid (show st2.s.zones.length=st.s.zones.length+1 from by have h:=eraS_zones (st.zone a) n f;rw [hx] at h;rw [h];simp [RdP.zone]);have HCE:=Lib.hid (fun (A:Option Addr) (c2:Nat) (hA:StrArg w4 A f) (hc3:f.length≤c2)=>r13era_any B g (st.zone a) n A f.length c2 f w4 HE.out.1 hA rfl hc3 HL.out (by omega) HSM.out (by simp [RdP.zone]) (by have:=HZE.out.2;simp [RdP.zone];omega));simp only [hx] at HCE HX;have HA1:=Lib.hid (show StrArg w4 (some ⟨b,o+1,none⟩) f from ⟨fun _=>⟨b,o+1,rfl,HE.out.2.2.tail⟩⟩);have HA2:=Lib.hid (show c=1→StrArg w4 (some ⟨b,o,none⟩) f from fun h=>⟨fun h0=>absurd (List.eq_nil_of_length_eq_zero (by omega)) h0⟩);have HFC:=Lib.hid hc;have HBW:=Lib.hid HE.out.2.1;clear hx HE HL HSM hc hc2
 by_cases he:en=0
 ·subst he
  rw [if_neg (by simp)] at HX
  by_cases hc1:c=1
  ·go_wp2_with fail
   refine (HCE.out _ _ (HA2.out hc1) (by have:=HFC.out;omega)).mono ?_;rintro e2 w5 ⟨rfl,hrd,hbl⟩;obtain ⟨-,cur2,el2,⟨v1_,v2_,v3_,v4_,u1_,u2_,u3_,u4_⟩,hblk2,hrr2⟩:=hrd;have hln:=hrr2.zlen;have ho2:=hrr2.rows.own _ (List.mem_of_getElem? (i:=1) rfl);obtain ⟨p2,d2,h2e⟩:=own_form ho2;replace h2e:v2_=.slice p2 cur2.length d2:=h2e;subst h2e;have z1:=hblk2.cell_ (i:=1) rfl;have HE2:=Lib.hid (show RdH B g st2 w5∧Below B w1 w5 from ⟨⟨HBG.out,cur2,el2,_,hblk2,hrr2⟩,HBW.out.trans hbl⟩);rw [←HZL.out,←hln] at HX;clear hln hblk2 hrr2 ho2 hbl
   by_cases hov:500<cur2.length
   ·have hd:decide ((500:Int)<(cur2.length:Int))=true:=by simp;omega
    have HF:=Lib.hid (show zoneS st n (a::f)=(st2,7) from by rw [HX.out,if_pos hov]);clear hov;go_wp2_with fail
    go_ret
    exact ⟨by rw [HF.out];rfl,fun _=>by rw [HF.out];exact HE2.out.1,⟨_,HE2.out.1⟩,HE2.out.2⟩
   ·have hd:decide ((500:Int)<(cur2.length:Int))=false:=by simp;omega
    have HF:=Lib.hid (show zoneS st n (a::f)=(st2,0) from by rw [HX.out,if_neg hov]);clear hov;go_wp2_with fail
    go_ret
    exact ⟨by rw [HF.out];rfl,fun _=>by rw [HF.out];exact HE2.out.1,⟨_,HE2.out.1⟩,HE2.out.2⟩
  ·go_wp2_with fail
   refine (HCE.out _ _ HA1.out (by have:=HFC.out;omega)).mono ?_;rintro e2 w5 ⟨rfl,hrd,hbl⟩;obtain ⟨-,cur2,el2,⟨v1_,v2_,v3_,v4_,u1_,u2_,u3_,u4_⟩,hblk2,hrr2⟩:=hrd;have hln:=hrr2.zlen;have ho2:=hrr2.rows.own _ (List.mem_of_getElem? (i:=1) rfl);obtain ⟨p2,d2,h2e⟩:=own_form ho2;replace h2e:v2_=.slice p2 cur2.length d2:=h2e;subst h2e;have z1:=hblk2.cell_ (i:=1) rfl;have HE2:=Lib.hid (show RdH B g st2 w5∧Below B w1 w5 from ⟨⟨HBG.out,cur2,el2,_,hblk2,hrr2⟩,HBW.out.trans hbl⟩);rw [←HZL.out,←hln] at HX;clear hln hblk2 hrr2 ho2 hbl
   by_cases hov:500<cur2.length
   ·have hd:decide ((500:Int)<(cur2.length:Int))=true:=by simp;omega
    have HF:=Lib.hid (show zoneS st n (a::f)=(st2,7) from by rw [HX.out,if_pos hov]);clear hov;go_wp2_with fail
    go_ret
    exact ⟨by rw [HF.out];rfl,fun _=>by rw [HF.out];exact HE2.out.1,⟨_,HE2.out.1⟩,HE2.out.2⟩
   ·have hd:decide ((500:Int)<(cur2.length:Int))=false:=by simp;omega
    have HF:=Lib.hid (show zoneS st n (a::f)=(st2,0) from by rw [HX.out,if_neg hov]);clear hov;go_wp2_with fail
    go_ret
    exact ⟨by rw [HF.out];rfl,fun _=>by rw [HF.out];exact HE2.out.1,⟨_,HE2.out.1⟩,HE2.out.2⟩
 ·rw [if_pos he] at HX
  have HEN:=Lib.hid he;clear he
  by_cases hc1:c=1
  ·go_wp2_with fail
   refine (HCE.out _ _ (HA2.out hc1) (by have:=HFC.out;omega)).mono ?_;rintro e2 w5 ⟨rfl,hrd,hbl⟩;have HE2:=Lib.hid (And.intro hrd (HBW.out.trans hbl));clear hrd hbl;have hq:(en != 0)=true:=by have:=HEN.out;simp [this]
   go_wp2_with fail
   go_ret
   exact ⟨by rw [HX.out];rfl,fun h0=>by rw [HX.out] at h0;exact absurd h0 HEN.out,⟨_,HE2.out.1⟩,HE2.out.2⟩
  ·go_wp2_with fail
   refine (HCE.out _ _ HA1.out (by have:=HFC.out;omega)).mono ?_;rintro e2 w5 ⟨rfl,hrd,hbl⟩;have HE2:=Lib.hid (And.intro hrd (HBW.out.trans hbl));clear hrd hbl;have hq:(en != 0)=true:=by have:=HEN.out;simp [this]
   go_wp2_with fail
   go_ret
   exact ⟨by rw [HX.out];rfl,fun h0=>by rw [HX.out] at h0;exact absurd h0 HEN.out,⟨_,HE2.out.1⟩,HE2.out.2⟩
theorem r13zone_any (B g:Nat) (st:RdP) (n:Int) (b o c k:Nat) (ls:List (List UInt8)) (w:World) (h:RdH B g st w) (hr:StrRow w b o ls) (hn:ls.length=k) (hY:ls≠[]→∃Y,Blk w b 9 Y) (hc:k≤c) (hc2:k≤1000000) (hl:∀l ∈ ls,l.length≤1048576) (hsm:RdSm st) (hz5:st.s.zones.length≤500∧st.l.eras.length≤500) (hze:st.s.zones.length=st.l.eras.length) :
 Calls Tryz.prog 61 #[.pointer (some ⟨g,0,none⟩),.slice (some ⟨b,o,none⟩) k c,.int .i64 n] w fun e w'=>e=.returned (.int .i64 (zoneS st n ls).2)∧((zoneS st n ls).2=0→RdH B g (zoneS st n ls).1 w')∧(∃st',RdH B g st' w')∧Below B w w':=by
 cases ls with
 | nil =>
  subst hn;have HRD:=Lib.hid h;have HX:=Lib.hid (show zoneS st n []=(st,5) from rfl);clear h
  go_enter Tryz.func61,Tryz.ntmps61;go_wp2_with fail
  go_ret
  exact ⟨by rw [HX.out];rfl,(fun h0=>by rw [HX.out] at h0;cases h0),⟨st,HRD.out⟩,Below.refl _ _⟩
 | cons a f =>
  simp only [List.length_cons] at hn;subst hn
  cases hzb:zoneB a with
  | true=>exact r13zone_yes B g st n b o c a f w h hr (hY (by simp)) hc hc2 hl hsm hz5 hze hzb
  | false =>
   have HX:=Lib.hid (show zoneS st n (a::f)=(st,9) from by rw [zoneS,if_pos hzb]);have HZ:=Lib.hid (r7zone_any ⟨a.toArray⟩ w (by simpa [ByteArray.size] using hl a (List.mem_cons_self ..)));rw [show (⟨a.toArray⟩:ByteArray).data.toList=a from by simp,hzb] at HZ;have z0:=hr.at_ 0 a rfl;rw [Nat.add_zero] at z0;have HRD:=Lib.hid h;clear hr hl hsm h hz5 hze hzb hY
   go_enter Tryz.func61,Tryz.ntmps61;go_wp2_with fail
   refine HZ.out.mono ?_;rintro e1 w1 ⟨rfl,rfl⟩;clear z0;go_wp2_with fail
   go_ret
   exact ⟨by rw [HX.out];rfl,(fun h0=>by rw [HX.out] at h0;cases h0),⟨st,HRD.out⟩,Below.refl _ _⟩
end Go.Proofs.YtciclddfhohieaaGreatDoor
