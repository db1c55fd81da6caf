/-
  The reference's reader of layer 13: an era and a zone are read into rows of the call's own.
-/
import Derived.Test.YtciclddfhohieaaGreatDoorRef13
import Derived.Test.YtciclddfhohieaaGreatDoorRefEraC
set_option linter.unusedVariables false
set_option linter.unusedSimpArgs false
set_option maxRecDepth 100000
set_option maxHeartbeats 4000000
namespace Go.Proofs.YtciclddfhohieaaGreatDoor
open Go.RowKit Go.Shelf
section
variable {B g L RT gx T:Nat} {w W W':World} {RC RC' X:Array Value} {st st':RdP} {cur cur':List ZV} {el el':List IV} {v v':V8}
theorem RX.store {g2 q T2:Nat} {u:Value} {Y:Array Value} (h:RX B g L RT w RC st cur el v gx T X W) (hr:RR B st' cur' el' v' (W.setCell ⟨g2,q,none⟩ u)) (hY:Blk W g2 T2 Y) (hRT:RT≠T2) (hT:T≠T2) (hB:B≤g2):RX B g L RT w RC st' cur' el' v' gx T X (W.setCell ⟨g2,q,none⟩ u) :=
 ⟨hr,h.out.far (fun hx=>hRT (by have hx:g=g2:=hx;subst hx;exact rows_typ h.out hY)) u,fun h0=>(h.box h0).far (fun hx=>hT (by have hx:gx=g2:=hx;subst hx;exact rows_typ (h.box h0) hY)) u,h.bel.setCell hB u,by simpa using h.lsz,h.bl⟩
theorem RX.as_ (h:RX B g L RT w RC st cur el v gx T X W) (hs:st'.s=st.s) (hl:st'.l=st.l):RX B g L RT w RC st' cur el v gx T X W :=
 ⟨⟨by have:=h.rr.rows;unfold rdRows at this ⊢;rw [hs,hl];exact this,by rw [hs];exact h.rr.zs,by rw [hl];exact h.rr.es⟩,h.out,h.box,h.bel,h.lsz,h.bl⟩
theorem rd_era1 (st:RdP) (cur:List ZV) (el:List IV) (v:V8) (j:Nat) (x y:ZV) (hx:cur[j]? = some x) (hn:y.1.1.name=x.1.1.name) :
 ((rdRows st cur el v).set (8+j) (rEra y)).set 1 ⟨52,2,cur.length,(flatC encZV cur).set (j*2+1) y.1.2,v.v2⟩=rdRows st (cur.set j y) el v:=by
 have hj:=(List.getElem?_eq_some_iff.1 hx).1;have e1:flatC encZV (cur.set j y)=(flatC encZV cur).set (j*2+1) y.1.2:=flatC_put_ encZV (fun x=>(zone_cells x).1) y.1.2 1 (by decide) cur j x y hx (by simp [encZV,encZ,hn])
 have e3:(rdRows st cur el v).set (8+j) (rEra y)=[rRule st.s.rules v.v1,rZone cur v.v2,rLink st.s.links v.v3,rStr st.s.shifts v.v4,rInt st.l.rules v.u1,rIrow el v.u2,rInt st.l.links v.u3,rInt st.l.shifts v.u4]++(cur.set j y).map rEra++el.map (fun q=>rInt q.2 q.1):=by
  unfold rdRows;rw [set_mid (q:=8+j) (j:=j) _ _ _ (by simpa using hj) (by rfl),List.map_set]
 rw [e3,←e1];unfold rdRows;have l1:(cur.set j y).length=cur.length:=List.length_set;unfold rZone;rw [l1]
 rfl
theorem rd_int1 (st:RdP) (cur:List ZV) (el:List IV) (v:V8) (i:Nat) (z:IV) (hi:i<el.length) :
 ((rdRows st cur el v).set (8+cur.length+i) (rInt z.2 z.1)).set 5 ⟨29,1,el.length,(flatC encW el).set i z.1,v.u2⟩=rdRows st cur (el.set i z) v:=by
 have e2:flatC encW (el.set i z)=(flatC encW el).set (i*1+0) z.1:=flatC_put_ encW (fun x=>rfl) z.1 0 (by decide) el i el[i] z (List.getElem?_eq_getElem hi) (by simp [encW]);rw [Nat.mul_one,Nat.add_zero] at e2;unfold rdRows;rw [set_end _ _ _ (j:=i) (by simp),←e2,List.map_set (f:=fun q:IV=>rInt q.2 q.1)];have l2:(el.set i z).length=el.length:=List.length_set;unfold rIrow;rw [l2]
 rfl
theorem RR.era1 (h:RR B st cur el v W) (hlow:LowRows L (rdRows st cur el v)) {j:Nat} {x:ZV} (hx:cur[j]? = some x) {e:EraP} {u:Value} (hf:∃p c,u=.slice p (x.1.1.eras++[e]).length c) (hu:EraO B (x.1.1.eras++[e]) u W) (hr:Renewed L x.1.2 u) {g2 c2:Nat} (h2:v.v2=.slice (some ⟨g2,0,none⟩) cur.length c2) :
 RR B ⟨⟨st.s.rules,st.s.zones.set j ⟨x.1.1.name,x.1.1.eras++[e]⟩,st.s.links,st.s.shifts⟩,st.l,st.op⟩ (cur.set j (zvE x e u hf)) el v (W.setCell ⟨g2,j*2+1,none⟩ u):=by
 have h1:=h.rows.put_ (i:=8+j) (r':=rEra (zvE x e u hf)) (rd_era st cur el v hx) hu rfl hr (fun s hs _=>hlow s hs)
 have k1:((rdRows st cur el v).set (8+j) (rEra (zvE x e u hf)))[1]? = some ⟨52,2,cur.length,flatC encZV cur,.slice (some ⟨g2,0,none⟩) cur.length c2⟩:=by
  rw [List.getElem?_set_ne (by omega),←h2]
  rfl
 have h3:=h1.store k1 (q:=j*2+1) u;have e1:=rd_era1 st cur el v j x (zvE x e u hf) hx rfl;rw [h2] at e1;refine ⟨?_,by rw [List.map_set,h.zs];rfl,h.es⟩;have e4:rdRows st (cur.set j (zvE x e u hf)) el v=rdRows ⟨⟨st.s.rules,st.s.zones.set j ⟨x.1.1.name,x.1.1.eras++[e]⟩,st.s.links,st.s.shifts⟩,st.l,st.op⟩ (cur.set j (zvE x e u hf)) el v:=rfl;rw [←e4,←e1];exact h3
theorem RR.eraN (h:RR B st cur el v W) (hlow:LowRows L (rdRows st cur el v)) {j:Nat} {q:IV} (hq:el[j]? = some q) {n:Int} {u:Value} (hu:(rInt (q.2++[n]) u).own B W) (hr:Renewed L q.1 u) {g5 c5:Nat} (h5:v.u2=.slice (some ⟨g5,0,none⟩) el.length c5) :
 RR B ⟨st.s,⟨st.l.rules,st.l.eras.set j (q.2++[n]),st.l.links,st.l.shifts⟩,st.op⟩ cur (el.set j (u,q.2++[n])) v (W.setCell ⟨g5,j,none⟩ u):=by
 have hi:=(List.getElem?_eq_some_iff.1 hq).1;have h1:=h.rows.put_ (i:=8+cur.length+j) (r':=rInt (q.2++[n]) u) (rd_int st cur el v hq) hu rfl hr (fun s hs _=>hlow s hs)
 have k1:((rdRows st cur el v).set (8+cur.length+j) (rInt (q.2++[n]) u))[5]? = some ⟨29,1,el.length,flatC encW el,.slice (some ⟨g5,0,none⟩) el.length c5⟩:=by
  rw [List.getElem?_set_ne (by omega),←h5]
  rfl
 have h3:=h1.store k1 (q:=j) u;have e1:=rd_int1 st cur el v j (u,q.2++[n]) hi;rw [h5] at e1;refine ⟨?_,h.zs,by rw [List.map_set,h.es]⟩;have e4:rdRows st cur (el.set j (u,q.2++[n])) v=rdRows ⟨st.s,⟨st.l.rules,st.l.eras.set j (q.2++[n]),st.l.links,st.l.shifts⟩,st.op⟩ cur (el.set j (u,q.2++[n])) v:=rfl;rw [←e4,←e1];exact h3
end
theorem r13era_any (B g:Nat) (st:RdP) (n:Int) (A:Option Addr) (k c:Nat) (ls:List (List UInt8)) (w:World) (h:RdH B g st w) (hr:StrArg w A ls) (hn:ls.length=k) (hc:k≤c) (hl:∀l ∈ ls,l.length≤1048576) (hm:k≤1000000) (hsm:RdSm st) (hz:st.s.zones≠[]) (hze:st.s.zones.length=st.l.eras.length) :
 Calls Tryz.prog 58 #[.pointer (some ⟨g,0,none⟩),.slice A k c,.int .i64 n] w fun e w'=>e=.returned (.int .i64 (eraS st n ls).2)∧RdH B g (eraS st n ls).1 w'∧Below B w w':=by
 obtain ⟨hBg,cur,el,⟨v1,v2,v3,v4,u1,u2,u3,u4⟩,hblk,hrr⟩:=h;obtain ⟨ix,zx,hix,hzx,hszx,hbyx,hzcx⟩:=info_st (P:=Tryz.prog) (e:=63) (k:=13) (by kernel_rfl);obtain ⟨ii,zi,hii,hzi,hszi,hbyi,hzci⟩:=info_st (P:=Tryz.prog) (e:=3) (k:=1) (by kernel_rfl);obtain ⟨⟨eo,ek,es,sn,sf,⟨is,y,m,⟨d1,d2,d3⟩,⟨h1,h2⟩⟩⟩,en,hx⟩:∃x e,eraR ls=(x,e):=⟨_,_,rfl⟩;have HP:=Lib.hid (r11parse_any A k c ls w hr hn hc hl hm);rw [hx] at HP;simp only [EraP.cells] at HP;have hzl:=hrr.zlen;have hel:=hrr.elen;have hcz:cur.length≠0:=by rw [hzl];simpa using hz
 obtain ⟨j,hj⟩:∃j,cur.length=j+1:=⟨cur.length-1,by omega⟩;obtain ⟨x,hxj⟩:∃x,cur[j]? = some x:=⟨_,List.getElem?_eq_getElem (by omega)⟩;obtain ⟨q,hqj⟩:∃q,el[j]? = some q:=⟨_,List.getElem?_eq_getElem (by omega)⟩;obtain ⟨g2,c2,h2e⟩:=own_some (hrr.rows.own _ (List.mem_of_getElem? (i:=1) rfl)) hcz;obtain ⟨g5,c5,h5e⟩:=own_some (hrr.rows.own _ (List.mem_of_getElem? (i:=5) rfl)) (by show el.length≠0;omega);replace h2e:v2=.slice (some ⟨g2,0,none⟩) cur.length c2:=h2e;replace h5e:u2=.slice (some ⟨g5,0,none⟩) el.length c5:=h5e;subst h2e h5e;have hxz:st.s.zones[j]? = some x.1.1:=by rw [←hrr.zs,List.getElem?_map,hxj];rfl
 have hqe:st.l.eras[j]? = some q.2:=by rw [←hrr.es,List.getElem?_map,hqj];rfl
 have HX:=Lib.hid (show en=0→eraS st n ls=(⟨⟨st.s.rules,st.s.zones.set j ⟨x.1.1.name,x.1.1.eras++[⟨eo,ek,es,sn,sf,⟨is,y,m,⟨d1,d2,d3⟩,⟨h1,h2⟩⟩⟩]⟩,st.s.links,st.s.shifts⟩,⟨st.l.rules,st.l.eras.set j (q.2++[n]),st.l.links,st.l.shifts⟩,is⟩,if 60<x.1.1.eras.length+1 then 7 else 0) from fun h0=>by
  unfold eraS;rw [hx,if_neg (by simpa using h0),show st.s.zones.length-1=j by omega];simp only [List.getD_eq_getElem?_getD,hxz,hqe,Option.getD_some])
 have HX2:=Lib.hid (show en≠0→eraS st n ls=(st,en) from fun h0=>by unfold eraS;rw [hx,if_pos (by simpa using h0)]);have HRT:=Lib.hid (show RTypes 80 from by decide);have HS:=Lib.hid (And.intro (hblk) (And.intro (hrr) (Nat.le_trans hBg (Nat.le_of_lt hblk.lt))));have HN1:=Lib.hid (show x.1.1.eras.length≤61 from hsm.eras _ (List.mem_of_getElem? hxz));have HN2:=Lib.hid (show q.2.length≤61 from hsm.lines _ (List.mem_of_getElem? hqe));have HBG:=Lib.hid hBg;have HXJ:=Lib.hid hxj;have HQJ:=Lib.hid hqj;have HCZ:=Lib.hid (show (flatC encZV cur)[j*2+1]? = some x.1.2 from by have h:=flatC_at (enc:=encZV) (fun x=>(zone_cells x).1) cur j 1 x hxj (by decide);rw [h];rfl);have HIC:=Lib.hid (show (flatC encW el)[j]? = some q.1 from by have h:=flatC_at (enc:=encW) (fun x=>rfl) el j 0 q hqj (by decide);rw [Nat.mul_one,Nat.add_zero] at h;rw [h];rfl);have hjb:j≤501:=by have:=hsm.zones.1;omega
 have hcl:(cur.length:Int)-1=(j:Int):=by omega
 have hjc:j<cur.length:=by omega
 have hje:j<el.length:=by omega
 clear hx hr hn hl hm hsm hblk hrr hBg hz hze hxz hqe hcz hxj hqj hzl hel hj hc
 by_cases he:en=0
 ·subst he
  replace HX:=Lib.hid (HX.out rfl);clear HX2
  go_enter Tryz.func58,Tryz.ntmps58;go_wp2_with fail
  refine HP.out.mono ?_;rintro e1 w1 ⟨rfl,hb⟩;have HS1:=Lib.hid (And.intro (HS.out.1.below hb HS.out.1.lt) (And.intro (HS.out.2.1.below hb) (And.intro (Nat.le_trans HS.out.2.2 hb.size) (hb.mono HS.out.2.2))));clear hb HS HP
  go_upto_region 4 with fail
  have ha:Below w1.heap.size w1 (w1.alloc (.cells #[.int .i64 eo,.int .i64 ek,.int .i64 es,.string ⟨sn.toArray⟩,.string ⟨sf.toArray⟩,.bool is,.int .i64 y,.int .i64 m,.int .i64 d1,.int .i64 d2,.int .i64 d3,.int .i64 h1,.int .i64 h2] 63)):=(Below.refl _ _).alloc (Nat.le_refl _) _;have HX1:=Lib.hid (show RX B g (w1.alloc (.cells #[.int .i64 eo,.int .i64 ek,.int .i64 es,.string ⟨sn.toArray⟩,.string ⟨sf.toArray⟩,.bool is,.int .i64 y,.int .i64 m,.int .i64 d1,.int .i64 d2,.int .i64 d3,.int .i64 h1,.int .i64 h2] 63)).heap.size 80 w #[v1,.slice (some ⟨g2,0,none⟩) cur.length c2,v3,v4,u1,.slice (some ⟨g5,0,none⟩) el.length c5,u3,u4,.bool st.op] st cur el ⟨v1,.slice (some ⟨g2,0,none⟩) cur.length c2,v3,v4,u1,.slice (some ⟨g5,0,none⟩) el.length c5,u3,u4⟩ w1.heap.size 63 #[.int .i64 eo,.int .i64 ek,.int .i64 es,.string ⟨sn.toArray⟩,.string ⟨sf.toArray⟩,.bool is,.int .i64 y,.int .i64 m,.int .i64 d1,.int .i64 d2,.int .i64 d3,.int .i64 h1,.int .i64 h2] (w1.alloc (.cells #[.int .i64 eo,.int .i64 ek,.int .i64 es,.string ⟨sn.toArray⟩,.string ⟨sf.toArray⟩,.bool is,.int .i64 y,.int .i64 m,.int .i64 d1,.int .i64 d2,.int .i64 d3,.int .i64 h1,.int .i64 h2] 63)) from ⟨HS1.out.2.1.below ha,HS1.out.1.below ha HS1.out.1.lt,fun _=>Blk.new' _ _ _ rfl,HS1.out.2.2.2.trans (ha.mono HS1.out.2.2.1),Nat.le_refl _,Nat.le_trans HS1.out.2.2.1 ha.size⟩);have HGX:=Lib.hid (show lowV w1.heap.size x.1.2∧lowV w1.heap.size q.1 from ⟨lowV_of (HS1.out.2.1.eo (List.mem_of_getElem? HXJ.out)),lowV_of (HS1.out.2.1.io (List.mem_of_getElem? HQJ.out))⟩);clear ha HS1;generalize w1.alloc (.cells #[.int .i64 eo,.int .i64 ek,.int .i64 es,.string ⟨sn.toArray⟩,.string ⟨sf.toArray⟩,.bool is,.int .i64 y,.int .i64 m,.int .i64 d1,.int .i64 d2,.int .i64 d3,.int .i64 h1,.int .i64 h2] 63)=w2 at *;generalize w1.heap.size=gx at *;obtain ⟨L,hL⟩:∃L,w2.heap.size=L:=⟨_,rfl⟩;rw [hL] at HX1;have HLW:=Lib.hid (show LowRows L (rdRows st cur el ⟨v1,.slice (some ⟨g2,0,none⟩) cur.length c2,v3,v4,u1,.slice (some ⟨g5,0,none⟩) el.length c5,u3,u4⟩) from by rw [←hL];exact HX1.out.rr.rows.low);have HL1:=Lib.hid (show lowV L x.1.2 from HLW.out (rEra x) (List.mem_of_getElem? (rd_era st cur el _ HXJ.out)));clear hL;have z1:=HX1.out.out.cell_ (i:=1) rfl
  go_upto_region 5 with fail
  clear z1;refine wp_region_relsG 20 [[],[],[],[],[],[],[],[],[],[],[],[],[],[],[],[],[],[16],[],[]] [Form.val,Form.val,Form.val,Form.val,Form.val,Form.val,Form.val,Form.val,Form.val,Form.val,Form.val,Form.val,Form.val,Form.val,Form.val,Form.val,Form.rel (One 63 L #[.int .i64 eo,.int .i64 ek,.int .i64 es,.string ⟨sn.toArray⟩,.string ⟨sf.toArray⟩,.bool is,.int .i64 y,.int .i64 m,.int .i64 d1,.int .i64 d2,.int .i64 d3,.int .i64 h1,.int .i64 h2]),Form.rel (GrownR 63 13 B L x.1.2 (x.1.1.eras.length+1) (flatC EraP.cells x.1.1.eras++(#[.int .i64 eo,.int .i64 ek,.int .i64 es,.string ⟨sn.toArray⟩,.string ⟨sf.toArray⟩,.bool is,.int .i64 y,.int .i64 m,.int .i64 d1,.int .i64 d2,.int .i64 d3,.int .i64 h1,.int .i64 h2]).toList)),Form.val,Form.val] (fun W=>RX B g L 80 w #[v1,.slice (some ⟨g2,0,none⟩) cur.length c2,v3,v4,u1,.slice (some ⟨g5,0,none⟩) el.length c5,u3,u4,.bool st.op] st cur el ⟨v1,.slice (some ⟨g2,0,none⟩) cur.length c2,v3,v4,u1,.slice (some ⟨g5,0,none⟩) el.length c5,u3,u4⟩ gx 63 #[.int .i64 eo,.int .i64 ek,.int .i64 es,.string ⟨sn.toArray⟩,.string ⟨sf.toArray⟩,.bool is,.int .i64 y,.int .i64 m,.int .i64 d1,.int .i64 d2,.int .i64 d3,.int .i64 h1,.int .i64 h2] W) (GOwn 63 13 B x.1.1.eras.length (flatC EraP.cells x.1.1.eras) x.1.2) 17 (by kernel_rfl) (by kernel_rfl) rfl rfl (HX1.out.below (Below.refl _ _).drew) GOwn.of_below (fun W W2 h=>h.1.size) (fun W W2 h hg=>h.kept HRT.out (i:=8+j) (r:=rEra x) (rd_era st cur el _ HXJ.out) (.inr HGX.out.1) hg) ⟨(one_other HL1.out),GrownR.last,trivial⟩ ?_
  repeat (first|apply exSpec_rel|apply exSpec_new|apply exSpec_val)
  apply relWalkR_ex rfl rfl ?oq0 (fun K hK=>?nq0)
  case oq0 =>
   intro W hC hF;go_simp
   all_goals first|exact ⟨Below.refl _ _,rfl⟩|exact Below.refl _ _
  case' nq0 =>
   go_simp;refine hK _ ?_;clear hK K
  apply relWalkR_ex rfl rfl ?oq1 (fun K hK=>?nq1)
  case oq1 =>
   intro W hC hF;go_simp
   all_goals first|exact ⟨Below.refl _ _,rfl⟩|exact Below.refl _ _
  case' nq1 =>
   go_simp;refine hK _ ?_;clear hK K
  apply relWalkR_ex rfl rfl ?oq2 (fun K hK=>?nq2)
  case oq2 =>
   intro W hC hF;go_simp
   all_goals first|exact ⟨Below.refl _ _,rfl⟩|exact Below.refl _ _
  case' nq2 =>
   go_simp;refine hK _ ?_;clear hK K
  apply relWalkR_ex rfl rfl ?oq3 (fun K hK=>?nq3)
  case oq3 =>
   intro W hC hF;go_simp
   all_goals first|exact ⟨Below.refl _ _,rfl⟩|exact Below.refl _ _
  case' nq3 =>
   go_simp;refine hK _ ?_;clear hK K
  apply relWalkR_ex rfl rfl ?oq4 (fun K hK=>?nq4)
  case oq4 =>
   intro W hC hF;have z0:=hC.out.cell_ (i:=1) rfl;go_simp
   all_goals first|exact ⟨Below.refl _ _,rfl⟩|exact Below.refl _ _
  case' nq4 =>
   go_simp;refine hK _ ?_;clear hK K
  apply relWalkR_ex rfl rfl ?oq5 (fun K hK=>?nq5)
  case oq5 =>
   intro W hC hF;go_simp
   all_goals first|exact ⟨Below.refl _ _,rfl⟩|exact Below.refl _ _
  case' nq5 =>
   go_simp;refine hK _ ?_;clear hK K
  apply relWalkR_ex rfl rfl ?oq6 (fun K hK=>?nq6)
  case oq6 =>
   intro W hC hF;go_simp
   all_goals first|exact ⟨Below.refl _ _,rfl⟩|exact Below.refl _ _
  case' nq6 =>
   go_simp;refine hK _ ?_;clear hK K
  apply relWalkR_ex rfl rfl ?oq7 (fun K hK=>?nq7)
  case oq7 =>
   intro W hC hF;go_simp
   all_goals first|exact ⟨Below.refl _ _,rfl⟩|exact Below.refl _ _
  case' nq7 =>
   go_simp;refine hK _ ?_;clear hK K
  apply relWalkR_ex rfl rfl ?oq8 (fun K hK=>?nq8)
  case oq8 =>
   intro W hC hF;go_simp
   all_goals first|exact ⟨Below.refl _ _,rfl⟩|exact Below.refl _ _
  case' nq8 =>
   go_simp;refine hK _ ?_;clear hK K
  apply relWalkR_ex rfl rfl ?oq9 (fun K hK=>?nq9)
  case oq9 =>
   intro W hC hF;go_simp
   all_goals first|exact ⟨Below.refl _ _,rfl⟩|exact Below.refl _ _
  case' nq9 =>
   go_simp;refine hK _ ?_;clear hK K
  apply relWalkR_ex rfl rfl ?oq10 (fun K hK=>?nq10)
  case oq10 =>
   intro W hC hF;have z0:=hC.out.cell_ (i:=1) rfl;go_simp
   all_goals first|exact ⟨Below.refl _ _,rfl⟩|exact Below.refl _ _
  case' nq10 =>
   go_simp;refine hK _ ?_;clear hK K
  apply relWalkR_ex rfl rfl ?oq11 (fun K hK=>?nq11)
  case oq11 =>
   intro W hC hF;go_simp
   all_goals first|exact ⟨Below.refl _ _,rfl⟩|exact Below.refl _ _
  case' nq11 =>
   go_simp;refine hK _ ?_;clear hK K
  apply relWalkR_ex rfl rfl ?oq12 (fun K hK=>?nq12)
  case oq12 =>
   intro W hC hF;go_simp
   all_goals first|exact ⟨Below.refl _ _,rfl⟩|exact Below.refl _ _
  case' nq12 =>
   go_simp;refine hK _ ?_;clear hK K
  apply relWalkR_ex rfl rfl ?oq13 (fun K hK=>?nq13)
  case oq13 =>
   intro W hC hF;go_simp
   all_goals first|exact ⟨Below.refl _ _,rfl⟩|exact Below.refl _ _
  case' nq13 =>
   go_simp;refine hK _ ?_;clear hK K
  apply relWalkR_ex rfl rfl ?oq14 (fun K hK=>?nq14)
  case oq14 =>
   intro W hC hF;have z0:=row_cell (hC.rr.rows.own _ (List.mem_of_getElem? (i:=1) rfl)) rfl HCZ.out;go_simp
   all_goals first|exact ⟨Below.refl _ _,rfl⟩|exact Below.refl _ _
  case' nq14 =>
   go_simp;refine hK _ ?_;clear hK K
  apply relWalkR_ex rfl rfl ?oq15 (fun K hK=>?nq15)
  case oq15 =>
   intro W hC hF;exact relAt_load 63 (.tmp 7) rfl gx rfl 63 _ _ (hC.box (by decide)) Tryz.underlying63 rfl (by kernel_rfl)
  case' nq15 =>
   go_simp;refine hK _ ?_;clear hK K
  apply relWalkR_rel rfl rfl ?oq16 (fun u16 K hK=>?nq16)
  case oq16 =>
   intro W hC hF;exact relAt_one rfl ix zx Tryz.underlying50 hix hzx #[.int .i64 eo,.int .i64 ek,.int .i64 es,.string ⟨sn.toArray⟩,.string ⟨sf.toArray⟩,.bool is,.int .i64 y,.int .i64 m,.int .i64 d1,.int .i64 d2,.int .i64 d3,.int .i64 h1,.int .i64 h2] rfl hszx hzcx (by simp) (by simp) L hC.lsz
  case' nq16 =>
   go_simp;refine hK _ ?_;clear hK K
  apply relWalkR_wr rfl rfl ?oq17 (fun u17 K hK=>?nq17)
  case oq17 =>
   intro W hC hF;obtain ⟨⟨g1,rfl,hb1,hg1⟩,-⟩:=hF;exact relAtR_push2 rfl B L ix zx 13 Tryz.underlying50 hix hzx hszx hbyx hzcx (by decide) x.1.2 x.1.1.eras.length (flatC EraP.cells x.1.1.eras) rfl (hC.rr.rows.own (rEra x) (List.mem_of_getElem? (rd_era st cur el _ HXJ.out))) g1 1 #[.int .i64 eo,.int .i64 ek,.int .i64 es,.string ⟨sn.toArray⟩,.string ⟨sf.toArray⟩,.bool is,.int .i64 y,.int .i64 m,.int .i64 d1,.int .i64 d2,.int .i64 d3,.int .i64 h1,.int .i64 h2] rfl hb1 rfl (by simp [Value.oneCell']) (Nat.le_trans HN1.out (by decide)) (Nat.le_trans hC.bl hC.lsz) hC.lsz (fun u W2 h=>h)
  case' nq17 =>
   go_simp;refine hK _ ?_;clear hK K
  apply relWalkR_ex rfl rfl ?oq18 (fun K hK=>?nq18)
  case oq18 =>
   intro W hC hF;go_simp
   all_goals first|exact ⟨Below.refl _ _,rfl⟩|exact Below.refl _ _
  case' nq18 =>
   go_simp;refine hK _ ?_;clear hK K
  apply relWalkR_ex rfl rfl ?oq19 (fun K hK=>?nq19)
  case oq19 =>
   intro W hC hF;go_simp
   all_goals first|exact ⟨Below.refl _ _,rfl⟩|exact Below.refl _ _
  case' nq19 =>
   go_simp;refine hK _ ?_;clear hK K
  apply relWalkR_end
  intro W hC hF hU;have h17:=hF.1;obtain ⟨p9,d9,hu9⟩:=own_form h17.1;have hff:∃p c,u17=.slice p (x.1.1.eras++[(⟨eo,ek,es,sn,sf,⟨is,y,m,⟨d1,d2,d3⟩,⟨h1,h2⟩⟩⟩:EraP)]).length c:=⟨p9,d9,by rw [List.length_append];exact hu9⟩;have hrr1:=hC.rr.era1 HLW.out HXJ.out hff (by show World.ownsRow _ _ _ _ _ _ _;rw [List.length_append,flatC_snoc];exact h17.1) h17.2 rfl;have ho1:=hC.rr.rows.own _ (List.mem_of_getElem? (i:=1) rfl);obtain ⟨Y1,hY1⟩:=row_blk ho1 rfl;have z0:=row_cell ho1 rfl HCZ.out;have f0:=hY1.frozen (j*2+1);have hBg2:B≤g2:=own_base ho1 g2 (by simp [Value.ownBlock,rZone]);have hX2:=(hC.store hrr1 hY1 (by show 80≠52;decide) (by show 63≠52;decide) hBg2).now;have hcl1:(cur.set j (zvE x ⟨eo,ek,es,sn,sf,⟨is,y,m,⟨d1,d2,d3⟩,⟨h1,h2⟩⟩⟩ u17 hff)).length=cur.length:=List.length_set;have hxj1:(cur.set j (zvE x ⟨eo,ek,es,sn,sf,⟨is,y,m,⟨d1,d2,d3⟩,⟨h1,h2⟩⟩⟩ u17 hff))[j]? = some (zvE x ⟨eo,ek,es,sn,sf,⟨is,y,m,⟨d1,d2,d3⟩,⟨h1,h2⟩⟩⟩ u17 hff):=List.getElem?_set_self hjc;have hze1:(zvE x ⟨eo,ek,es,sn,sf,⟨is,y,m,⟨d1,d2,d3⟩,⟨h1,h2⟩⟩⟩ u17 hff).1.2=.slice p9 (x.1.1.eras.length+1) d9:=hu9;generalize cur.set j (zvE x ⟨eo,ek,es,sn,sf,⟨is,y,m,⟨d1,d2,d3⟩,⟨h1,h2⟩⟩⟩ u17 hff)=cur1 at *;generalize zvE x ⟨eo,ek,es,sn,sf,⟨is,y,m,⟨d1,d2,d3⟩,⟨h1,h2⟩⟩⟩ u17 hff=x1 at *;have HX2a:=Lib.hid hX2;have HC1:=Lib.hid (And.intro hcl1 (And.intro hxj1 hze1));subst hu9;clear hX2 hrr1 hC hF hU h17 ho1 hY1 hBg2 hcl1 hxj1 hze1 HX1 HLW HL1 HCZ
  go_upto_region 6 with fail
  clear z0 f0;generalize W.setCell ⟨g2,j*2+1,none⟩ _=wa at *;have hjc1:j<cur1.length:=by have:=HC1.out.1;omega
  obtain ⟨st1,hst1⟩:∃s:RdP,⟨⟨st.s.rules,st.s.zones.set j ⟨x.1.1.name,x.1.1.eras++[(⟨eo,ek,es,sn,sf,⟨is,y,m,⟨d1,d2,d3⟩,⟨h1,h2⟩⟩⟩:EraP)]⟩,st.s.links,st.s.shifts⟩,st.l,st.op⟩=s:=⟨_,rfl⟩;rw [hst1] at HX2a;have HST:=Lib.hid hst1;clear hst1;have hv2:(.slice (some ⟨g2,0,none⟩) cur.length c2:Value)=.slice (some ⟨g2,0,none⟩) cur1.length c2:=by rw [HC1.out.1]
  rw [hv2] at HX2a;have hcl1:(cur1.length:Int)-1=(j:Int):=by have:=HC1.out.1;omega
  clear hv2 hcl hjc;obtain ⟨L,hL⟩:∃L,wa.heap.size=L:=⟨_,rfl⟩;rw [hL] at HX2a;have HX2:=Lib.hid (HX2a.out);clear HX2a;have HLW:=Lib.hid (show LowRows L (rdRows st1 cur1 el ⟨v1,.slice (some ⟨g2,0,none⟩) cur1.length c2,v3,v4,u1,.slice (some ⟨g5,0,none⟩) el.length c5,u3,u4⟩) from by rw [←hL];exact HX2.out.rr.rows.low);clear hL;have HL1:=Lib.hid (show lowV L q.1 from HLW.out (rInt q.2 q.1) (List.mem_of_getElem? (rd_int st1 cur1 el _ HQJ.out)));refine wp_region_relsG 18 [[],[],[],[],[],[],[],[],[],[],[],[],[],[],[],[],[15],[]] [Form.val,Form.val,Form.val,Form.val,Form.val,Form.val,Form.val,Form.val,Form.val,Form.val,Form.val,Form.val,Form.val,Form.val,Form.val,Form.rel (One 3 L #[.int .i64 n]),Form.rel (GrownR 3 1 B L q.1 (q.2.length+1) (flatC encI q.2++(#[.int .i64 n]:Array Value).toList)),Form.val] (fun W=>RX B g L 80 w #[v1,.slice (some ⟨g2,0,none⟩) cur1.length c2,v3,v4,u1,.slice (some ⟨g5,0,none⟩) el.length c5,u3,u4,.bool st.op] st1 cur1 el ⟨v1,.slice (some ⟨g2,0,none⟩) cur1.length c2,v3,v4,u1,.slice (some ⟨g5,0,none⟩) el.length c5,u3,u4⟩ gx 63 #[.int .i64 eo,.int .i64 ek,.int .i64 es,.string ⟨sn.toArray⟩,.string ⟨sf.toArray⟩,.bool is,.int .i64 y,.int .i64 m,.int .i64 d1,.int .i64 d2,.int .i64 d3,.int .i64 h1,.int .i64 h2] W) (GOwn 3 1 B q.2.length (flatC encI q.2) q.1) 16 (by kernel_rfl) (by kernel_rfl) rfl rfl (HX2.out.below (Below.refl _ _).drew) GOwn.of_below (fun W W2 h=>h.1.size) (fun W W2 h hg=>h.kept HRT.out (i:=8+cur1.length+j) (r:=rInt q.2 q.1) (rd_int st1 cur1 el _ HQJ.out) (.inr HGX.out.2) hg) ⟨(one_other HL1.out),GrownR.last,trivial⟩ ?_
  repeat (first|apply exSpec_rel|apply exSpec_new|apply exSpec_val)
  apply relWalkR_ex rfl rfl ?os0 (fun K hK=>?ns0)
  case os0 =>
   intro W hC hF;go_simp
   all_goals first|exact ⟨Below.refl _ _,rfl⟩|exact Below.refl _ _
  case' ns0 =>
   go_simp;refine hK _ ?_;clear hK K
  apply relWalkR_ex rfl rfl ?os1 (fun K hK=>?ns1)
  case os1 =>
   intro W hC hF;go_simp
   all_goals first|exact ⟨Below.refl _ _,rfl⟩|exact Below.refl _ _
  case' ns1 =>
   go_simp;refine hK _ ?_;clear hK K
  apply relWalkR_ex rfl rfl ?os2 (fun K hK=>?ns2)
  case os2 =>
   intro W hC hF;go_simp
   all_goals first|exact ⟨Below.refl _ _,rfl⟩|exact Below.refl _ _
  case' ns2 =>
   go_simp;refine hK _ ?_;clear hK K
  apply relWalkR_ex rfl rfl ?os3 (fun K hK=>?ns3)
  case os3 =>
   intro W hC hF;go_simp
   all_goals first|exact ⟨Below.refl _ _,rfl⟩|exact Below.refl _ _
  case' ns3 =>
   go_simp;refine hK _ ?_;clear hK K
  apply relWalkR_ex rfl rfl ?os4 (fun K hK=>?ns4)
  case os4 =>
   intro W hC hF;have z0:=hC.out.cell_ (i:=5) rfl;go_simp
   all_goals first|exact ⟨Below.refl _ _,rfl⟩|exact Below.refl _ _
  case' ns4 =>
   go_simp;refine hK _ ?_;clear hK K
  apply relWalkR_ex rfl rfl ?os5 (fun K hK=>?ns5)
  case os5 =>
   intro W hC hF;go_simp
   all_goals first|exact ⟨Below.refl _ _,rfl⟩|exact Below.refl _ _
  case' ns5 =>
   go_simp;refine hK _ ?_;clear hK K
  apply relWalkR_ex rfl rfl ?os6 (fun K hK=>?ns6)
  case os6 =>
   intro W hC hF;go_simp
   all_goals first|exact ⟨Below.refl _ _,rfl⟩|exact Below.refl _ _
  case' ns6 =>
   go_simp;refine hK _ ?_;clear hK K
  apply relWalkR_ex rfl rfl ?os7 (fun K hK=>?ns7)
  case os7 =>
   intro W hC hF;go_simp
   all_goals first|exact ⟨Below.refl _ _,rfl⟩|exact Below.refl _ _
  case' ns7 =>
   go_simp;refine hK _ ?_;clear hK K
  apply relWalkR_ex rfl rfl ?os8 (fun K hK=>?ns8)
  case os8 =>
   intro W hC hF;go_simp
   all_goals first|exact ⟨Below.refl _ _,rfl⟩|exact Below.refl _ _
  case' ns8 =>
   go_simp;refine hK _ ?_;clear hK K
  apply relWalkR_ex rfl rfl ?os9 (fun K hK=>?ns9)
  case os9 =>
   intro W hC hF;go_simp
   all_goals first|exact ⟨Below.refl _ _,rfl⟩|exact Below.refl _ _
  case' ns9 =>
   go_simp;refine hK _ ?_;clear hK K
  apply relWalkR_ex rfl rfl ?os10 (fun K hK=>?ns10)
  case os10 =>
   intro W hC hF;have z0:=hC.out.cell_ (i:=5) rfl;go_simp
   all_goals first|exact ⟨Below.refl _ _,rfl⟩|exact Below.refl _ _
  case' ns10 =>
   go_simp;refine hK _ ?_;clear hK K
  apply relWalkR_ex rfl rfl ?os11 (fun K hK=>?ns11)
  case os11 =>
   intro W hC hF;go_simp
   all_goals first|exact ⟨Below.refl _ _,rfl⟩|exact Below.refl _ _
  case' ns11 =>
   go_simp;refine hK _ ?_;clear hK K
  apply relWalkR_ex rfl rfl ?os12 (fun K hK=>?ns12)
  case os12 =>
   intro W hC hF;go_simp
   all_goals first|exact ⟨Below.refl _ _,rfl⟩|exact Below.refl _ _
  case' ns12 =>
   go_simp;refine hK _ ?_;clear hK K
  apply relWalkR_ex rfl rfl ?os13 (fun K hK=>?ns13)
  case os13 =>
   intro W hC hF;have z0:=row_cell (hC.rr.rows.own _ (List.mem_of_getElem? (i:=5) rfl)) rfl HIC.out;go_simp
   all_goals first|exact ⟨Below.refl _ _,rfl⟩|exact Below.refl _ _
  case' ns13 =>
   go_simp;refine hK _ ?_;clear hK K
  apply relWalkR_ex rfl rfl ?os14 (fun K hK=>?ns14)
  case os14 =>
   intro W hC hF;go_simp
   all_goals first|exact ⟨Below.refl _ _,rfl⟩|exact Below.refl _ _
  case' ns14 =>
   go_simp;refine hK _ ?_;clear hK K
  apply relWalkR_rel rfl rfl ?os15 (fun u15 K hK=>?ns15)
  case os15 =>
   intro W hC hF;have hLs:=hC.lsz;go_simp;exact ⟨(Below.refl _ _).alloc (Nat.le_refl _) _,_,rfl,Blk.new' _ _ _ rfl,hLs⟩
  case' ns15 =>
   go_simp;refine hK _ ?_;clear hK K
  apply relWalkR_wr rfl rfl ?os16 (fun u16 K hK=>?ns16)
  case os16 =>
   intro W hC hF;obtain ⟨⟨g1,rfl,hb1,hg1⟩,-⟩:=hF;exact relAtR_push2 rfl B L ii zi 1 Tryz.underlying29 hii hzi hszi hbyi hzci (by decide) q.1 q.2.length (flatC encI q.2) rfl (hC.rr.rows.own (rInt q.2 q.1) (List.mem_of_getElem? (rd_int st1 cur1 el _ HQJ.out))) g1 1 #[.int .i64 n] rfl hb1 rfl (by simp [Value.oneCell']) (Nat.le_trans HN2.out (by decide)) (Nat.le_trans hC.bl hC.lsz) hC.lsz (fun u W2 h=>h)
  case' ns16 =>
   go_simp;refine hK _ ?_;clear hK K
  apply relWalkR_ex rfl rfl ?os17 (fun K hK=>?ns17)
  case os17 =>
   intro W hC hF;go_simp
   all_goals first|exact ⟨Below.refl _ _,rfl⟩|exact Below.refl _ _
  case' ns17 =>
   go_simp;refine hK _ ?_;clear hK K
  apply relWalkR_end
  intro W2 hC hF hU;have h16:=hF.1;obtain ⟨p7,d7,hu7⟩:=own_form h16.1;have hrr2:=hC.rr.eraN (n:=n) HLW.out HQJ.out (by unfold rInt Row.own;dsimp only;rw [List.length_append,flatC_snoc];exact h16.1) h16.2 rfl;have ho5:=hC.rr.rows.own _ (List.mem_of_getElem? (i:=5) rfl);obtain ⟨Y5,hY5⟩:=row_blk ho5 rfl;have z5:=row_cell ho5 rfl HIC.out;have f5:=hY5.frozen j;have hBg5:B≤g5:=own_base ho5 g5 (by simp [Value.ownBlock,rIrow]);have HX3:=Lib.hid (hC.store hrr2 hY5 (by show 80≠29;decide) (by show 63≠29;decide) hBg5).now;subst hu7;clear hrr2 hC hF hU h16 ho5 hY5 hBg5 HX2 HLW HL1 HIC HGX
  go_upto_region 7 with fail
  clear z5 f5;generalize W2.setCell ⟨g5,j,none⟩ _=wb at *;have b5:=(HX3.out.box (by decide)).cell_ (i:=5) rfl;have z8:=HX3.out.out.cell_ (i:=8) rfl;have f8:=HX3.out.out.frozen 8;have HX4:=Lib.hid ((HX3.out.put (j:=8) (u:=.bool is) (RC':=#[v1,.slice (some ⟨g2,0,none⟩) cur1.length c2,v3,v4,u1,.slice (some ⟨g5,0,none⟩) el.length c5,u3,u4,.bool is]) HX3.out.rr HRT.out (by decide) HBG.out rfl).now.as_ (st':=⟨⟨st.s.rules,st.s.zones.set j ⟨x.1.1.name,x.1.1.eras++[⟨eo,ek,es,sn,sf,⟨is,y,m,⟨d1,d2,d3⟩,⟨h1,h2⟩⟩⟩]⟩,st.s.links,st.s.shifts⟩,⟨st.l.rules,st.l.eras.set j (q.2++[n]),st.l.links,st.l.shifts⟩,is⟩) (by rw [←HST.out]) (by rw [←HST.out]));clear HX3
  go_upto_region 8 with fail
  clear b5 z8 f8;generalize wb.setCell ⟨g,8,none⟩ _=wc at *;have z1:=HX4.out.out.cell_ (i:=1) rfl;have z0:=row_cell (HX4.out.rr.rows.own _ (List.mem_of_getElem? (i:=1) rfl)) rfl (i:=j*2+1) (u:=.slice p9 (x.1.1.eras.length+1) d9) (by have h:=flatC_at (enc:=encZV) (fun x=>(zone_cells x).1) cur1 j 1 _ HC1.out.2.1 (by decide);show (flatC encZV cur1)[j*2+1]? = some (.slice p9 (x.1.1.eras.length+1) d9);rw [h];exact congrArg some HC1.out.2.2);have HE:=Lib.hid (show RdH B g (eraS st n ls).1 wc∧Below B w wc from ⟨⟨HBG.out,cur1,_,⟨v1,.slice (some ⟨g2,0,none⟩) cur1.length c2,v3,v4,u1,.slice (some ⟨g5,0,none⟩) el.length c5,u3,u4⟩,by rw [HX.out];exact HX4.out.out,by rw [HX.out];exact HX4.out.rr⟩,HX4.out.bel⟩);clear HX4 HC1 HST HXJ HQJ
  by_cases hov:60<x.1.1.eras.length+1
  ·have hd:decide ((60:Int)<(x.1.1.eras.length:Int)+1)=true:=by simp;omega
   have HF:=Lib.hid (show (eraS st n ls).2=7 from by rw [HX.out];exact if_pos hov);clear hov;go_wp2_with fail
   go_ret
   exact ⟨by rw [HF.out];rfl,HE.out.1,HE.out.2⟩
  ·have hd:decide ((60:Int)<(x.1.1.eras.length:Int)+1)=false:=by simp;omega
   have HF:=Lib.hid (show (eraS st n ls).2=0 from by rw [HX.out];exact if_neg hov);clear hov;go_wp2_with fail
   go_ret
   exact ⟨by rw [HF.out];rfl,HE.out.1,HE.out.2⟩
 ·replace HX2:=Lib.hid (HX2.out he)
  clear HX;have hq:(en != 0)=true:=by simp [he]
  have hq2:(en==0)=false:=by simp [he]
  clear he
  go_enter Tryz.func58,Tryz.ntmps58;go_wp2_with fail
  refine HP.out.mono ?_;rintro e1 w1 ⟨rfl,hb⟩;have HS1:=Lib.hid (And.intro (HS.out.1.below hb HS.out.1.lt) (And.intro (HS.out.2.1.below hb) (And.intro (Nat.le_trans HS.out.2.2 hb.size) (hb.mono HS.out.2.2))));clear hb HS HP;have ha:Below w1.heap.size w1 (w1.alloc (.cells #[.int .i64 eo,.int .i64 ek,.int .i64 es,.string ⟨sn.toArray⟩,.string ⟨sf.toArray⟩,.bool is,.int .i64 y,.int .i64 m,.int .i64 d1,.int .i64 d2,.int .i64 d3,.int .i64 h1,.int .i64 h2] 63)):=(Below.refl _ _).alloc (Nat.le_refl _) _;have HS2:=Lib.hid (And.intro (show RdH B g st (w1.alloc (.cells #[.int .i64 eo,.int .i64 ek,.int .i64 es,.string ⟨sn.toArray⟩,.string ⟨sf.toArray⟩,.bool is,.int .i64 y,.int .i64 m,.int .i64 d1,.int .i64 d2,.int .i64 d3,.int .i64 h1,.int .i64 h2] 63)) from ⟨HBG.out,cur,el,⟨v1,.slice (some ⟨g2,0,none⟩) cur.length c2,v3,v4,u1,.slice (some ⟨g5,0,none⟩) el.length c5,u3,u4⟩,HS1.out.1.below ha HS1.out.1.lt,HS1.out.2.1.below ha⟩) (HS1.out.2.2.2.trans (ha.mono HS1.out.2.2.1)));clear ha HS1;go_wp2_with fail
  go_ret
  exact ⟨by rw [HX2.out];rfl,by rw [HX2.out];exact HS2.out.1,HS2.out.2⟩
end Go.Proofs.YtciclddfhohieaaGreatDoor
