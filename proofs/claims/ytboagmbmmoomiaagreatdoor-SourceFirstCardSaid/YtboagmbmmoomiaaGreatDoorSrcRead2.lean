/-
  The reader of layer 13: an era, a zone.
-/
import Derived.Test.YtboagmbmmoomiaaGreatDoorSrcRead
set_option linter.unusedVariables false
set_option linter.unusedSimpArgs false
set_option maxRecDepth 100000
set_option maxHeartbeats 4000000
namespace Go.Proofs.YtboagmbmmoomiaaGreatDoor
open Go.Lib (hid)
open Go.RowKit Go.Shelf
structure RE (B g L RT:Nat) (w:World) (RC:Array Value) (rows:List Row) (gx T:Nat) (X:Array Value) (W:World):Prop where
 rows:Rows B rows W
 out:Blk W g RT RC
 box:Blk W gx T X
 bel:Below B w W
 lsz:L≤W.heap.size
 bl:B≤L
def CE (B g L RT:Nat) (w:World) (RC:Array Value) (rowsF:Value→List Row) (gx T:Nat) (X:Array Value) (vo:Value) (G:Value→World→Prop) (b:Bool) (W:World):Prop:=∃u,(b=false→u=vo)∧(b=true→G u W)∧RE B g L RT w RC (rowsF u) gx T X W
section
variable {B g L RT gx T:Nat} {w W W':World} {RC X:Array Value} {rows:List Row} {rowsF:Value→List Row} {vo:Value} {G:Value→World→Prop} {b:Bool}
theorem RE.below (h:RE B g L RT w RC rows gx T X W) (hb:Below W.heap.size W W'):RE B g L RT w RC rows gx T X W' :=
 ⟨h.rows.below hb,h.out.below hb h.out.lt,h.box.below hb h.box.lt,h.bel.trans (hb.mono (Nat.le_trans h.bl h.lsz)),Nat.le_trans h.lsz hb.size,h.bl⟩
theorem RE.kept (h:RE B g L RT w RC rows gx T X W) {i:Nat} {r:Row} (hi:rows[i]? = some r) (hRT:RT≠r.e) (hx:T≠r.e∨lowV gx r.v) (hg:GOwn r.e r.k B r.n r.xs r.v W W'):RE B g L RT w RC rows gx T X W':=by
 have ho:=h.rows.own r (List.mem_of_getElem? hi);refine ⟨h.rows.kept hi hg,h.rows.blk hi h.out hg.1 hRT,?_,h.bel.grown hg.1 (Nat.le_trans h.bl h.lsz) (own_base ho),Nat.le_trans h.lsz hg.1.size,h.bl⟩
 rcases hx with hx|hx
 ·exact h.rows.blk hi h.box hg.1 hx
 ·exact (hg.1.block gx h.box.lt (fun hh=>by have:=hx gx hh.symm;omega)).trans h.box
theorem CE.below (hG:Lasts G) (h:CE B g L RT w RC rowsF gx T X vo G b W) (hb:Below W.heap.size W W'):CE B g L RT w RC rowsF gx T X vo G b W':=by
 obtain ⟨u,h1,h2,h3⟩:=h;exact ⟨u,h1,fun e=>hG u _ _ hb (h2 e),h3.below hb⟩
theorem CE.kept {i:Nat} {r:Row} (hi:∀u,(rowsF u)[i]? = some r) (hRT:RT≠r.e) (hx:T≠r.e∨lowV gx r.v) (h:CE B g L RT w RC rowsF gx T X vo G false W) (hg:GOwn r.e r.k B r.n r.xs r.v W W'):CE B g L RT w RC rowsF gx T X vo G false W':=by
 obtain ⟨u,h1,h2,h3⟩:=h;exact ⟨u,h1,fun e=>(by cases e),h3.kept (hi u) hRT hx hg⟩
theorem CE.gate {g2 c2 q i e k n:Nat} {xsF:Value→List Value} (hi:∀u,(rowsF u)[i]? = some ⟨e,k,n,xsF u,.slice (some ⟨g2,0,none⟩) n c2⟩) (hset:∀u u',(rowsF u).set i ⟨e,k,n,(xsF u).set q u',.slice (some ⟨g2,0,none⟩) n c2⟩=rowsF u') (hT:T≠e) (hRT:RT≠e) (hG:∀u w w',StoreG g2 q e G w w'→G u w→G u w') (h:CE B g L RT w RC rowsF gx T X vo G false W) (hs:StoreG g2 q e G W W'):CE B g L RT w RC rowsF gx T X vo G true W':=by
 obtain ⟨u,h1,h2,h3⟩:=h;have hs0:=hs;obtain ⟨⟨Y,hY⟩,u',hu',rfl⟩:=hs;have ho:=h3.rows.own _ (List.mem_of_getElem? (hi u));have hBg:B≤g2:=own_base ho g2 (by simp [Value.ownBlock]);have hr:=h3.rows.store (hi u) (q:=q) u';rw [hset] at hr;exact ⟨u',fun e=>(by cases e),fun _=>hG u' _ _ hs0 hu',hr,h3.out.far (fun hx=>hRT (by have hx:g=g2:=hx;subst hx;exact rows_typ h3.out hY)) u',h3.box.far (fun hx=>hT (by have hx:gx=g2:=hx;subst hx;exact rows_typ h3.box hY)) u',h3.bel.setCell hBg u',by simpa using h3.lsz,h3.bl⟩
end
theorem row_cell {B g c e k n:Nat} {xs:List Value} {v:Value} {W:World} (h:W.ownsRow B e k v n xs) (hv:v=.slice (some ⟨g,0,none⟩) n c) {i:Nat} {u:Value} (hu:xs[i]? = some u):W.cell? ⟨g,i,none⟩=some u:=by
 have:=h.cells (g:=g) (by rw [hv];simp [Value.ownBlock]) i u hu;rwa [Addr.add_lit,Nat.zero_add] at this
theorem row_blk {B g c e k n:Nat} {xs:List Value} {v:Value} {W:World} (h:W.ownsRow B e k v n xs) (hv:v=.slice (some ⟨g,0,none⟩) n c):∃C,Blk W g e C:=by
 rcases rows_blk h with h1|⟨g',C,h1,h2,_⟩
 ·rw [hv] at h1;simp [Value.ownBlock] at h1
 ·rw [hv] at h1
  simp [Value.ownBlock] at h1
  subst h1;exact ⟨C,h2⟩
theorem own_some {B e k n:Nat} {v:Value} {xs:List Value} {W:World} (h:W.ownsRow B e k v n xs) (hn:n≠0):∃g c,v=.slice (some ⟨g,0,none⟩) n c:=by
 rcases h.2 with ⟨_,h0⟩|⟨g,cap,cur,rfl,_⟩
 ·exact absurd h0 hn
 ·exact ⟨g,cap,rfl⟩
def rowE (st:RdP) (cur:List ZV) (el:List IV) (v:V8) (j:Nat) (u:Value):List Row:=(rdRows st cur el v).set 1 ⟨58,2,cur.length,(flatC encZV cur).set (j*2+1) u,v.v2⟩
theorem RR.era2 {B L:Nat} {st:RdP} {cur:List ZV} {el:List IV} {v:V8} {W:World} {j:Nat} {x:ZV} {q:IV} {e:EraP} {n:Int} {u u':Value} {g5 c5:Nat} (hzs:cur.map (fun q=>q.1.1)=st.s.zones) (hes:el.map (fun q=>q.2)=st.l.eras) (h1:Rows B (rowE st cur el v j u) W) (hlow:LowRows L (rdRows st cur el v)) (hx:cur[j]? = some x) (hq:el[j]? = some q) (hf:∃p c,u=.slice p (x.1.1.eras++[e]).length c) (hu:EraO B (x.1.1.eras++[e]) u W) (hr:Renewed L x.1.2 u) (hu':(rInt (q.2++[n]) u').own B W) (hr':Renewed L q.1 u') (h5:v.u2=.slice (some ⟨g5,0,none⟩) el.length c5) :
 RR B ⟨⟨st.s.rules,st.s.zones.set j ⟨x.1.1.name,x.1.1.eras++[e]⟩,st.s.links,st.s.shifts⟩,⟨st.l.rules,st.l.eras.set j (q.2++[n]),st.l.links,st.l.shifts⟩,st.op⟩ (cur.set j (zvE x e u hf)) (el.set j (u',q.2++[n])) v (W.setCell ⟨g5,j,none⟩ u'):=by
 have hj:=(List.getElem?_eq_some_iff.1 hx).1;have hi:=(List.getElem?_eq_some_iff.1 hq).1
 have hlow':LowRows L (rowE st cur el v j u):=fun s hs g hg=>by
  rcases List.mem_or_eq_of_mem_set hs with hs|rfl
  ·exact hlow s hs g hg
  ·exact hlow (rZone cur v.v2) (List.mem_of_getElem? (i:=1) rfl) g hg
 have h2:=h1.put2 hlow' (i:=8+j) (j:=8+cur.length+j) (r:=rEra x) (s:=rInt q.2 q.1) (r':=rEra (zvE x e u hf)) (s':=rInt (q.2++[n]) u') (by unfold rowE;rw [List.getElem?_set_ne (by omega)];exact rd_era st cur el v hx) (by unfold rowE;rw [List.getElem?_set_ne (by omega)];exact rd_int st cur el v hq) (by omega) (by show 62≠3;decide) hu rfl hr hu' rfl hr'
 have k2:(((rowE st cur el v j u).set (8+j) (rEra (zvE x e u hf))).set (8+cur.length+j) (rInt (q.2++[n]) u'))[5]? = some ⟨32,1,el.length,flatC encW el,.slice (some ⟨g5,0,none⟩) el.length c5⟩:=by
  unfold rowE;rw [List.getElem?_set_ne (by omega),List.getElem?_set_ne (by omega),List.getElem?_set_ne (by omega),←h5]
  rfl
 have h4:=h2.store k2 (q:=j) u';have e1:=rd_sets st cur el v j j x (zvE x e u hf) (u',q.2++[n]) hx rfl hi;rw [h5,Nat.mul_one,Nat.add_zero] at e1;refine ⟨?_,by rw [List.map_set,hzs];rfl,by rw [List.map_set,hes]⟩;have e4:rdRows st (cur.set j (zvE x e u hf)) (el.set j (u',q.2++[n])) v=rdRows ⟨⟨st.s.rules,st.s.zones.set j ⟨x.1.1.name,x.1.1.eras++[e]⟩,st.s.links,st.s.shifts⟩,⟨st.l.rules,st.l.eras.set j (q.2++[n]),st.l.links,st.l.shifts⟩,st.op⟩ (cur.set j (zvE x e u hf)) (el.set j (u',q.2++[n])) v:=rfl;rw [←e4,←e1];unfold rowE at h4;rw [List.set_comm _ _ (by omega:1≠8+j),List.set_comm _ _ (by omega:1≠8+cur.length+j)] at h4;exact h4
theorem sera_any (B g:Nat) (st:RdP) (n:Int) (A:Option Addr) (k c:Nat) (ls:List (List UInt8)) (w:World) (h:RdG B g n st w) (hT:ETabs w) (hr:StrArg w A ls) (hn:ls.length=k) (hl:∀l ∈ ls,l.length≤1048576) (hm:k≤1000000) (hsm:RdSm st) (hz:st.s.zones≠[]) (hze:st.s.zones.length=st.l.eras.length) :
 Calls Tryz.prog 82 #[.pointer (some ⟨g,0,none⟩),.slice A k c] w fun e w'=>e=.returned (errV (eraS st n ls).2)∧RdG B g n (eraS st n ls).1 w'∧Below B w w':=by
 obtain ⟨hBg,cur,el,⟨v1,v2,v3,v4,u1,u2,u3,u4⟩,hblk,hrr⟩:=h;obtain ⟨ix,zx,hix,hzx,hszx,hbyx,hzcx⟩:=info_st (P:=Tryz.prog) (e:=62) (k:=13) (by kernel_rfl);obtain ⟨ii,zi,hii,hzi,hszi,hbyi,hzci⟩:=info_st (P:=Tryz.prog) (e:=3) (k:=1) (by kernel_rfl);obtain ⟨⟨eo,ek,es,sn,sf,⟨is,y,m,⟨d1,d2,d3⟩,⟨h1,h2⟩⟩⟩,en,hx⟩:∃x e,eraR ls=(x,e):=⟨_,_,rfl⟩;have HP:=hid (eparse_any A k c ls w hT hr hn hl hm);rw [hx] at HP;simp only [EraP.cells] at HP;have hzl:=hrr.zlen;have hel:=hrr.elen;have hcz:cur.length≠0:=by rw [hzl];simpa using hz
 obtain ⟨j,hj⟩:∃j,cur.length=j+1:=⟨cur.length-1,by omega⟩;obtain ⟨x,hxj⟩:∃x,cur[j]? = some x:=⟨_,List.getElem?_eq_getElem (by omega)⟩;obtain ⟨q,hqj⟩:∃q,el[j]? = some q:=⟨_,List.getElem?_eq_getElem (by omega)⟩;obtain ⟨g2,c2,h2e⟩:=own_some (hrr.rows.own _ (List.mem_of_getElem? (i:=1) rfl)) hcz;obtain ⟨g5,c5,h5e⟩:=own_some (hrr.rows.own _ (List.mem_of_getElem? (i:=5) rfl)) (by show el.length≠0;omega);replace h2e:v2=.slice (some ⟨g2,0,none⟩) cur.length c2:=h2e;replace h5e:u2=.slice (some ⟨g5,0,none⟩) el.length c5:=h5e;subst h2e h5e;have hxz:st.s.zones[j]? = some x.1.1:=by rw [←hrr.zs,List.getElem?_map,hxj];rfl
 have hqe:st.l.eras[j]? = some q.2:=by rw [←hrr.es,List.getElem?_map,hqj];rfl
 have HX:=hid (show en=0→eraS st n ls=(⟨⟨st.s.rules,st.s.zones.set j ⟨x.1.1.name,x.1.1.eras++[⟨eo,ek,es,sn,sf,⟨is,y,m,⟨d1,d2,d3⟩,⟨h1,h2⟩⟩⟩]⟩,st.s.links,st.s.shifts⟩,⟨st.l.rules,st.l.eras.set j (q.2++[n]),st.l.links,st.l.shifts⟩,is⟩,if 60<x.1.1.eras.length+1 then 7 else 0) from fun h0=>by
  unfold eraS;rw [hx,if_neg (by simpa using h0),show st.s.zones.length-1=j by omega];simp only [List.getD_eq_getElem?_getD,hxz,hqe,Option.getD_some])
 have HX2:=hid (show en≠0→eraS st n ls=(st,en) from fun h0=>by unfold eraS;rw [hx,if_pos (by simpa using h0)]);have HS:=hid (And.intro (hblk) (And.intro (hrr) (Nat.le_trans hBg (Nat.le_of_lt hblk.lt))));have HN1:=hid (show x.1.1.eras.length≤61 from hsm.eras _ (List.mem_of_getElem? hxz));have HN2:=hid (show q.2.length≤61 from hsm.lines _ (List.mem_of_getElem? hqe));have HBG:=hid hBg;have HXJ:=hid hxj;have HQJ:=hid hqj;have HZC:=hid (fun u=>show ((flatC encZV cur).set (j*2+1) u)[j*2+1]? = some u from List.getElem?_set_self (by rw [flatC_len (fun x=>(zone_cells x).1)];omega));have HIC:=hid (show (flatC encW el)[j]? = some q.1 from by have h:=flatC_at (enc:=encW) (fun x=>rfl) el j 0 q hqj (by decide);rw [Nat.mul_one,Nat.add_zero] at h;rw [h];rfl);have HI1:=hid (fun u=>show (rowE st cur el ⟨v1,.slice (some ⟨g2,0,none⟩) cur.length c2,v3,v4,u1,.slice (some ⟨g5,0,none⟩) el.length c5,u3,u4⟩ j u)[8+j]? = some (rEra x) from by unfold rowE;rw [List.getElem?_set_ne (by omega)];exact rd_era st cur el _ hxj);have HI2:=hid (fun u=>show (rowE st cur el ⟨v1,.slice (some ⟨g2,0,none⟩) cur.length c2,v3,v4,u1,.slice (some ⟨g5,0,none⟩) el.length c5,u3,u4⟩ j u)[8+cur.length+j]? = some (rInt q.2 q.1) from by unfold rowE;rw [List.getElem?_set_ne (by omega)];exact rd_int st cur el _ hqj)
 have HR0:=hid (show rowE st cur el ⟨v1,.slice (some ⟨g2,0,none⟩) cur.length c2,v3,v4,u1,.slice (some ⟨g5,0,none⟩) el.length c5,u3,u4⟩ j x.1.2=rdRows st cur el ⟨v1,.slice (some ⟨g2,0,none⟩) cur.length c2,v3,v4,u1,.slice (some ⟨g5,0,none⟩) el.length c5,u3,u4⟩ from by
  have h:=flatC_at (enc:=encZV) (fun x=>(zone_cells x).1) cur j 1 x hxj (by decide);have h2:(flatC encZV cur)[j*2+1]? = some x.1.2:=by rw [h];rfl
  unfold rowE;rw [show (flatC encZV cur).set (j*2+1) x.1.2=flatC encZV cur from by obtain ⟨hh,he⟩:=List.getElem?_eq_some_iff.1 h2;rw [←he];exact List.set_getElem_self hh]
  rfl)
 have hjb:j≤501:=by have:=hsm.zones.1;omega
 have hcl:(cur.length:Int)-1=(j:Int):=by omega
 have hjc:j<cur.length:=by omega
 have hje:j<el.length:=by omega
 clear hx hr hn hl hm hsm hblk hrr hBg hT hz hze hxz hqe hcz hxj hqj hzl hel hj
 by_cases he:en=0
 ·subst he
  replace HX:=hid (HX.out rfl);clear HX2
  go_enter Tryz.func82,Tryz.ntmps82;go_wp2_with fail
  refine HP.out.mono ?_;rintro e1 w1 ⟨rfl,hb⟩;have HS1:=hid (And.intro (HS.out.1.below hb HS.out.1.lt) (And.intro (HS.out.2.1.below hb) (And.intro (Nat.le_trans HS.out.2.2 hb.size) (hb.mono HS.out.2.2))));clear hb HS HP
  go_upto_region 4 with fail
  have ha:Below w1.heap.size w1 (w1.alloc (.cells #[.int .i64 eo,.int .i64 ek,.int .i64 es,.string ⟨sn.toArray⟩,.string ⟨sf.toArray⟩,.bool is,.int .i64 y,.int .i64 m,.int .i64 d1,.int .i64 d2,.int .i64 d3,.int .i64 h1,.int .i64 h2] 62)):=(Below.refl _ _).alloc (Nat.le_refl _) _;have HB2:=hid (And.intro (HS1.out.1.below ha HS1.out.1.lt) (And.intro (HS1.out.2.1.below ha) (And.intro (HS1.out.2.2.2.trans (ha.mono HS1.out.2.2.1)) (And.intro (show Blk (w1.alloc (.cells #[.int .i64 eo,.int .i64 ek,.int .i64 es,.string ⟨sn.toArray⟩,.string ⟨sf.toArray⟩,.bool is,.int .i64 y,.int .i64 m,.int .i64 d1,.int .i64 d2,.int .i64 d3,.int .i64 h1,.int .i64 h2] 62)) w1.heap.size 62 #[.int .i64 eo,.int .i64 ek,.int .i64 es,.string ⟨sn.toArray⟩,.string ⟨sf.toArray⟩,.bool is,.int .i64 y,.int .i64 m,.int .i64 d1,.int .i64 d2,.int .i64 d3,.int .i64 h1,.int .i64 h2] from Blk.new' _ _ _ rfl) (show B≤(w1.alloc (.cells #[.int .i64 eo,.int .i64 ek,.int .i64 es,.string ⟨sn.toArray⟩,.string ⟨sf.toArray⟩,.bool is,.int .i64 y,.int .i64 m,.int .i64 d1,.int .i64 d2,.int .i64 d3,.int .i64 h1,.int .i64 h2] 62)).heap.size from by simp;have:=HS1.out.2.2.1;omega)))));have HGX:=hid (show lowV w1.heap.size x.1.2 from lowV_of (HS1.out.2.1.eo (List.mem_of_getElem? HXJ.out)));clear ha HS1;generalize w1.alloc (.cells #[.int .i64 eo,.int .i64 ek,.int .i64 es,.string ⟨sn.toArray⟩,.string ⟨sf.toArray⟩,.bool is,.int .i64 y,.int .i64 m,.int .i64 d1,.int .i64 d2,.int .i64 d3,.int .i64 h1,.int .i64 h2] 62)=w2 at *;generalize w1.heap.size=gx at *;have z1:=HB2.out.1.cell_ (i:=1) rfl
  go_upto_region 6 with fail
  clear z1;obtain ⟨L,hL⟩:∃L,w2.heap.size=L:=⟨_,rfl⟩;have HLW:=hid (show LowRows L (rdRows st cur el ⟨v1,.slice (some ⟨g2,0,none⟩) cur.length c2,v3,v4,u1,.slice (some ⟨g5,0,none⟩) el.length c5,u3,u4⟩) from by rw [←hL];exact HB2.out.2.1.rows.low);have HL1:=hid (show lowV L x.1.2 from HLW.out (rEra x) (List.mem_of_getElem? (rd_era st cur el _ HXJ.out)));have HL2:=hid (show lowV L q.1 from HLW.out (rInt q.2 q.1) (List.mem_of_getElem? (rd_int st cur el _ HQJ.out)));have HA12:=hid (show x.1.2.ownBlock=none∨x.1.2.ownBlock≠q.1.ownBlock from rx_apart HB2.out.2.1 (rd_era st cur el _ HXJ.out) (rd_int st cur el _ HQJ.out) (by omega));have HA21:=hid (show q.1.ownBlock=none∨q.1.ownBlock≠x.1.2.ownBlock from rx_apart HB2.out.2.1 (rd_int st cur el _ HQJ.out) (rd_era st cur el _ HXJ.out) (by omega));have HZS:=hid HB2.out.2.1.zs;have HES:=hid HB2.out.2.1.es;have HC:=hid (show CE B g L 106 w #[v1,.slice (some ⟨g2,0,none⟩) cur.length c2,v3,v4,u1,.slice (some ⟨g5,0,none⟩) el.length c5,u3,u4,.int .i64 n,.bool st.op] (rowE st cur el ⟨v1,.slice (some ⟨g2,0,none⟩) cur.length c2,v3,v4,u1,.slice (some ⟨g5,0,none⟩) el.length c5,u3,u4⟩ j) gx 62 #[.int .i64 eo,.int .i64 ek,.int .i64 es,.string ⟨sn.toArray⟩,.string ⟨sf.toArray⟩,.bool is,.int .i64 y,.int .i64 m,.int .i64 d1,.int .i64 d2,.int .i64 d3,.int .i64 h1,.int .i64 h2] x.1.2 (GrownR 62 13 B L x.1.2 (x.1.1.eras.length+1) (flatC EraP.cells x.1.1.eras++(#[.int .i64 eo,.int .i64 ek,.int .i64 es,.string ⟨sn.toArray⟩,.string ⟨sf.toArray⟩,.bool is,.int .i64 y,.int .i64 m,.int .i64 d1,.int .i64 d2,.int .i64 d3,.int .i64 h1,.int .i64 h2]).toList)) false w2 from ⟨_,fun _=>rfl,fun e=>(by cases e),by rw [HR0.out];exact HB2.out.2.1.rows,HB2.out.1,HB2.out.2.2.2.1,HB2.out.2.2.1,by rw [←hL];exact Nat.le_refl _,by rw [←hL];exact HB2.out.2.2.2.2⟩);clear HB2 hL HR0;refine wp_region_gate2 31 [[],[],[],[],[],[],[],[],[],[],[],[],[],[12],[],[],[],[],[],[],[],[],[],[],[],[],[],[26],[],[],[13]] [Form.val,Form.val,Form.val,Form.val,Form.val,Form.val,Form.val,Form.val,Form.val,Form.val,Form.val,Form.val,Form.rel (One 62 L #[.int .i64 eo,.int .i64 ek,.int .i64 es,.string ⟨sn.toArray⟩,.string ⟨sf.toArray⟩,.bool is,.int .i64 y,.int .i64 m,.int .i64 d1,.int .i64 d2,.int .i64 d3,.int .i64 h1,.int .i64 h2]),Form.rel (GrownR 62 13 B L x.1.2 (x.1.1.eras.length+1) (flatC EraP.cells x.1.1.eras++(#[.int .i64 eo,.int .i64 ek,.int .i64 es,.string ⟨sn.toArray⟩,.string ⟨sf.toArray⟩,.bool is,.int .i64 y,.int .i64 m,.int .i64 d1,.int .i64 d2,.int .i64 d3,.int .i64 h1,.int .i64 h2]).toList)),Form.val,Form.val,Form.val,Form.val,Form.val,Form.val,Form.val,Form.val,Form.val,Form.val,Form.val,Form.val,Form.rel (One 3 L #[.int .i64 n]),Form.rel (GrownR 3 1 B L q.1 (q.2.length+1) (flatC encI q.2++(#[.int .i64 n]:Array Value).toList)),Form.val,Form.val,Form.val] (CE B g L 106 w #[v1,.slice (some ⟨g2,0,none⟩) cur.length c2,v3,v4,u1,.slice (some ⟨g5,0,none⟩) el.length c5,u3,u4,.int .i64 n,.bool st.op] (rowE st cur el ⟨v1,.slice (some ⟨g2,0,none⟩) cur.length c2,v3,v4,u1,.slice (some ⟨g5,0,none⟩) el.length c5,u3,u4⟩ j) gx 62 #[.int .i64 eo,.int .i64 ek,.int .i64 es,.string ⟨sn.toArray⟩,.string ⟨sf.toArray⟩,.bool is,.int .i64 y,.int .i64 m,.int .i64 d1,.int .i64 d2,.int .i64 d3,.int .i64 h1,.int .i64 h2] x.1.2 (GrownR 62 13 B L x.1.2 (x.1.1.eras.length+1) (flatC EraP.cells x.1.1.eras++(#[.int .i64 eo,.int .i64 ek,.int .i64 es,.string ⟨sn.toArray⟩,.string ⟨sf.toArray⟩,.bool is,.int .i64 y,.int .i64 m,.int .i64 d1,.int .i64 d2,.int .i64 d3,.int .i64 h1,.int .i64 h2]).toList))) 13 27 30 62 13 B x.1.1.eras.length (flatC EraP.cells x.1.1.eras) x.1.2 3 1 B q.2.length (flatC encI q.2) q.1 g2 (j*2+1) 58 (GrownR 62 13 B L x.1.2 (x.1.1.eras.length+1) (flatC EraP.cells x.1.1.eras++(#[.int .i64 eo,.int .i64 ek,.int .i64 es,.string ⟨sn.toArray⟩,.string ⟨sf.toArray⟩,.bool is,.int .i64 y,.int .i64 m,.int .i64 d1,.int .i64 d2,.int .i64 d3,.int .i64 h1,.int .i64 h2]).toList)) (by kernel_rfl) (by kernel_rfl) rfl rfl (by decide) (by kernel_rfl) (by kernel_rfl) (by kernel_rfl) (HC.out.below GrownR.last (Below.refl _ _).drew) (fun b W W2 h hb=>h.below GrownR.last hb) (fun W W2 h hg=>h.kept (i:=8+j) (r:=rEra x) HI1.out (by show 106≠62;decide) (.inr HGX.out) hg) (fun W W2 h hg=>h.kept (i:=8+cur.length+j) (r:=rInt q.2 q.1) HI2.out (by show 106≠3;decide) (.inl (by show 62≠3;decide)) hg) (fun W W2 h hs=>CE.gate (i:=1) (e:=58) (k:=2) (n:=cur.length) (xsF:=fun u=>(flatC encZV cur).set (j*2+1) u) (fun u=>rfl) (fun u u2=>by unfold rowE;rw [List.set_set,List.set_set]) (by decide) (by decide) (fun u W W2 hs hG=>hG.store (by decide) u W W2 hs) h hs) ⟨lastb_all (One.last _ _ _) (one_other HL1.out) (one_other HL2.out) (one_store (by decide)),lastb_fst GrownR.last (GrownR.other HA12.out HL2.out) (GrownR.store (by decide)),lastb_all (One.last _ _ _) (one_other HL1.out) (one_other HL2.out) (one_store (by decide)),lastb_snd GrownR.last (GrownR.other HA21.out HL1.out) (GrownR.store (by decide)),trivial⟩ ?_
  repeat (first|apply exSpec_rel|apply exSpec_new|apply exSpec_val)
  apply relWalkB_ex rfl rfl ?oq0 (fun K hK=>?nq0)
  case oq0 =>
   intro b W hb hCC hF;obtain ⟨uc,hu0,hu1,hC⟩:=hCC;go_simp
   all_goals first|exact ⟨Below.refl _ _,rfl⟩|exact Below.refl _ _
  case' nq0 =>
   go_simp;refine hK _ ?_;clear hK K
  apply relWalkB_ex rfl rfl ?oq1 (fun K hK=>?nq1)
  case oq1 =>
   intro b W hb hCC hF;obtain ⟨uc,hu0,hu1,hC⟩:=hCC;go_simp
   all_goals first|exact ⟨Below.refl _ _,rfl⟩|exact Below.refl _ _
  case' nq1 =>
   go_simp;refine hK _ ?_;clear hK K
  apply relWalkB_ex rfl rfl ?oq2 (fun K hK=>?nq2)
  case oq2 =>
   intro b W hb hCC hF;obtain ⟨uc,hu0,hu1,hC⟩:=hCC;go_simp
   all_goals first|exact ⟨Below.refl _ _,rfl⟩|exact Below.refl _ _
  case' nq2 =>
   go_simp;refine hK _ ?_;clear hK K
  apply relWalkB_ex rfl rfl ?oq3 (fun K hK=>?nq3)
  case oq3 =>
   intro b W hb hCC hF;obtain ⟨uc,hu0,hu1,hC⟩:=hCC;go_simp
   all_goals first|exact ⟨Below.refl _ _,rfl⟩|exact Below.refl _ _
  case' nq3 =>
   go_simp;refine hK _ ?_;clear hK K
  apply relWalkB_ex rfl rfl ?oq4 (fun K hK=>?nq4)
  case oq4 =>
   intro b W hb hCC hF;obtain ⟨uc,hu0,hu1,hC⟩:=hCC;go_simp
   all_goals first|exact ⟨Below.refl _ _,rfl⟩|exact Below.refl _ _
  case' nq4 =>
   go_simp;refine hK _ ?_;clear hK K
  apply relWalkB_ex rfl rfl ?oq5 (fun K hK=>?nq5)
  case oq5 =>
   intro b W hb hCC hF;obtain ⟨uc,hu0,hu1,hC⟩:=hCC;have z0:=hC.out.cell_ (i:=5) rfl;clear hu0 hu1;go_simp
   all_goals first|exact ⟨Below.refl _ _,rfl⟩|exact Below.refl _ _
  case' nq5 =>
   go_simp;refine hK _ ?_;clear hK K
  apply relWalkB_ex rfl rfl ?oq6 (fun K hK=>?nq6)
  case oq6 =>
   intro b W hb hCC hF;obtain ⟨uc,hu0,hu1,hC⟩:=hCC;go_simp
   all_goals first|exact ⟨Below.refl _ _,rfl⟩|exact Below.refl _ _
  case' nq6 =>
   go_simp;refine hK _ ?_;clear hK K
  apply relWalkB_ex rfl rfl ?oq7 (fun K hK=>?nq7)
  case oq7 =>
   intro b W hb hCC hF;obtain ⟨uc,hu0,hu1,hC⟩:=hCC;go_simp
   all_goals first|exact ⟨Below.refl _ _,rfl⟩|exact Below.refl _ _
  case' nq7 =>
   go_simp;refine hK _ ?_;clear hK K
  apply relWalkB_ex rfl rfl ?oq8 (fun K hK=>?nq8)
  case oq8 =>
   intro b W hb hCC hF;obtain ⟨uc,hu0,hu1,hC⟩:=hCC;go_simp
   all_goals first|exact ⟨Below.refl _ _,rfl⟩|exact Below.refl _ _
  case' nq8 =>
   go_simp;refine hK _ ?_;clear hK K
  apply relWalkB_ex rfl rfl ?oq9 (fun K hK=>?nq9)
  case oq9 =>
   intro b W hb hCC hF;obtain ⟨uc,hu0,hu1,hC⟩:=hCC;go_simp
   all_goals first|exact ⟨Below.refl _ _,rfl⟩|exact Below.refl _ _
  case' nq9 =>
   go_simp;refine hK _ ?_;clear hK K
  apply relWalkB_ex rfl rfl ?oq10 (fun K hK=>?nq10)
  case oq10 =>
   intro b W hb hCC hF;obtain ⟨uc,hu0,hu1,hC⟩:=hCC;have hbf:=hb (by kernel_rfl);have hue:=hu0 hbf;subst hue;have z0:=row_cell (hC.rows.own _ (List.mem_of_getElem? (i:=1) rfl)) rfl (HZC.out _);clear hu0 hu1 hbf hb;go_simp
   all_goals first|exact ⟨Below.refl _ _,rfl⟩|exact Below.refl _ _
  case' nq10 =>
   go_simp;refine hK _ ?_;clear hK K
  apply relWalkB_ex rfl rfl ?oq11 (fun K hK=>?nq11)
  case oq11 =>
   intro b W hb hCC hF;obtain ⟨uc,hu0,hu1,hC⟩:=hCC;exact relAt_load 62 (.tmp 5) rfl gx rfl 62 _ _ hC.box Tryz.underlying62 rfl (by kernel_rfl)
  case' nq11 =>
   go_simp;refine hK _ ?_;clear hK K
  apply relWalkB_rel rfl rfl ?oq12 (fun u12 K hK=>?nq12)
  case oq12 =>
   intro b W hb hCC hF;obtain ⟨uc,hu0,hu1,hC⟩:=hCC;exact relAt_one rfl ix zx Tryz.underlying56 hix hzx #[.int .i64 eo,.int .i64 ek,.int .i64 es,.string ⟨sn.toArray⟩,.string ⟨sf.toArray⟩,.bool is,.int .i64 y,.int .i64 m,.int .i64 d1,.int .i64 d2,.int .i64 d3,.int .i64 h1,.int .i64 h2] rfl hszx hzcx (by simp) (by simp) L hC.lsz
  case' nq12 =>
   go_simp;refine hK _ ?_;clear hK K
  apply relWalkB_wr rfl rfl ?oq13 (fun u13 K hK=>?nq13)
  case oq13 =>
   intro b W hb hCC hF;obtain ⟨uc,hu0,hu1,hC⟩:=hCC;obtain ⟨⟨g1,rfl,hb1,hg1⟩,-⟩:=hF;exact relAtR_push2 rfl B L ix zx 13 Tryz.underlying56 hix hzx hszx hbyx hzcx (by decide) x.1.2 x.1.1.eras.length (flatC EraP.cells x.1.1.eras) rfl (hC.rows.own (rEra x) (List.mem_of_getElem? (HI1.out uc))) g1 1 #[.int .i64 eo,.int .i64 ek,.int .i64 es,.string ⟨sn.toArray⟩,.string ⟨sf.toArray⟩,.bool is,.int .i64 y,.int .i64 m,.int .i64 d1,.int .i64 d2,.int .i64 d3,.int .i64 h1,.int .i64 h2] rfl hb1 rfl (by simp [Value.oneCell']) (Nat.le_trans HN1.out (by decide)) (Nat.le_trans hC.bl hC.lsz) hC.lsz (fun u W2 h=>h)
  case' nq13 =>
   go_simp;refine hK _ ?_;clear hK K
  apply relWalkB_ex rfl rfl ?oq14 (fun K hK=>?nq14)
  case oq14 =>
   intro b W hb hCC hF;obtain ⟨uc,hu0,hu1,hC⟩:=hCC;go_simp
   all_goals first|exact ⟨Below.refl _ _,rfl⟩|exact Below.refl _ _
  case' nq14 =>
   go_simp;refine hK _ ?_;clear hK K
  apply relWalkB_ex rfl rfl ?oq15 (fun K hK=>?nq15)
  case oq15 =>
   intro b W hb hCC hF;obtain ⟨uc,hu0,hu1,hC⟩:=hCC;go_simp
   all_goals first|exact ⟨Below.refl _ _,rfl⟩|exact Below.refl _ _
  case' nq15 =>
   go_simp;refine hK _ ?_;clear hK K
  apply relWalkB_ex rfl rfl ?oq16 (fun K hK=>?nq16)
  case oq16 =>
   intro b W hb hCC hF;obtain ⟨uc,hu0,hu1,hC⟩:=hCC;go_simp
   all_goals first|exact ⟨Below.refl _ _,rfl⟩|exact Below.refl _ _
  case' nq16 =>
   go_simp;refine hK _ ?_;clear hK K
  apply relWalkB_ex rfl rfl ?oq17 (fun K hK=>?nq17)
  case oq17 =>
   intro b W hb hCC hF;obtain ⟨uc,hu0,hu1,hC⟩:=hCC;go_simp
   all_goals first|exact ⟨Below.refl _ _,rfl⟩|exact Below.refl _ _
  case' nq17 =>
   go_simp;refine hK _ ?_;clear hK K
  apply relWalkB_ex rfl rfl ?oq18 (fun K hK=>?nq18)
  case oq18 =>
   intro b W hb hCC hF;obtain ⟨uc,hu0,hu1,hC⟩:=hCC;have z0:=hC.out.cell_ (i:=5) rfl;clear hu0 hu1;go_simp
   all_goals first|exact ⟨Below.refl _ _,rfl⟩|exact Below.refl _ _
  case' nq18 =>
   go_simp;refine hK _ ?_;clear hK K
  apply relWalkB_ex rfl rfl ?oq19 (fun K hK=>?nq19)
  case oq19 =>
   intro b W hb hCC hF;obtain ⟨uc,hu0,hu1,hC⟩:=hCC;go_simp
   all_goals first|exact ⟨Below.refl _ _,rfl⟩|exact Below.refl _ _
  case' nq19 =>
   go_simp;refine hK _ ?_;clear hK K
  apply relWalkB_ex rfl rfl ?oq20 (fun K hK=>?nq20)
  case oq20 =>
   intro b W hb hCC hF;obtain ⟨uc,hu0,hu1,hC⟩:=hCC;go_simp
   all_goals first|exact ⟨Below.refl _ _,rfl⟩|exact Below.refl _ _
  case' nq20 =>
   go_simp;refine hK _ ?_;clear hK K
  apply relWalkB_ex rfl rfl ?oq21 (fun K hK=>?nq21)
  case oq21 =>
   intro b W hb hCC hF;obtain ⟨uc,hu0,hu1,hC⟩:=hCC;have z0:=row_cell (hC.rows.own _ (List.mem_of_getElem? (i:=5) rfl)) rfl HIC.out;clear hu0 hu1;go_simp
   all_goals first|exact ⟨Below.refl _ _,rfl⟩|exact Below.refl _ _
  case' nq21 =>
   go_simp;refine hK _ ?_;clear hK K
  apply relWalkB_ex rfl rfl ?oq22 (fun K hK=>?nq22)
  case oq22 =>
   intro b W hb hCC hF;obtain ⟨uc,hu0,hu1,hC⟩:=hCC;go_simp
   all_goals first|exact ⟨Below.refl _ _,rfl⟩|exact Below.refl _ _
  case' nq22 =>
   go_simp;refine hK _ ?_;clear hK K
  apply relWalkB_ex rfl rfl ?oq23 (fun K hK=>?nq23)
  case oq23 =>
   intro b W hb hCC hF;obtain ⟨uc,hu0,hu1,hC⟩:=hCC;go_simp
   all_goals first|exact ⟨Below.refl _ _,rfl⟩|exact Below.refl _ _
  case' nq23 =>
   go_simp;refine hK _ ?_;clear hK K
  apply relWalkB_ex rfl rfl ?oq24 (fun K hK=>?nq24)
  case oq24 =>
   intro b W hb hCC hF;obtain ⟨uc,hu0,hu1,hC⟩:=hCC;go_simp
   all_goals first|exact ⟨Below.refl _ _,rfl⟩|exact Below.refl _ _
  case' nq24 =>
   go_simp;refine hK _ ?_;clear hK K
  apply relWalkB_ex rfl rfl ?oq25 (fun K hK=>?nq25)
  case oq25 =>
   intro b W hb hCC hF;obtain ⟨uc,hu0,hu1,hC⟩:=hCC;have z0:=hC.out.cell_ (i:=8) rfl;clear hu0 hu1;go_simp
   all_goals first|exact ⟨Below.refl _ _,rfl⟩|exact Below.refl _ _
  case' nq25 =>
   go_simp;refine hK _ ?_;clear hK K
  apply relWalkB_rel rfl rfl ?oq26 (fun u26 K hK=>?nq26)
  case oq26 =>
   intro b W hb hCC hF;obtain ⟨uc,hu0,hu1,hC⟩:=hCC;have hLs:=hC.lsz;go_simp;exact ⟨(Below.refl _ _).alloc (Nat.le_refl _) _,_,rfl,Blk.new' _ _ _ rfl,hLs⟩
  case' nq26 =>
   go_simp;refine hK _ ?_;clear hK K
  apply relWalkB_wr rfl rfl ?oq27 (fun u27 K hK=>?nq27)
  case oq27 =>
   intro b W hb hCC hF;obtain ⟨uc,hu0,hu1,hC⟩:=hCC;obtain ⟨⟨g1,rfl,hb1,hg1⟩,-⟩:=hF;exact relAtR_push2 rfl B L ii zi 1 Tryz.underlying32 hii hzi hszi hbyi hzci (by decide) q.1 q.2.length (flatC encI q.2) rfl (hC.rows.own (rInt q.2 q.1) (List.mem_of_getElem? (HI2.out uc))) g1 1 #[.int .i64 n] rfl hb1 rfl (by simp [Value.oneCell']) (Nat.le_trans HN2.out (by decide)) (Nat.le_trans hC.bl hC.lsz) hC.lsz (fun u W2 h=>h)
  case' nq27 =>
   go_simp;refine hK _ ?_;clear hK K
  apply relWalkB_ex rfl rfl ?oq28 (fun K hK=>?nq28)
  case oq28 =>
   intro b W hb hCC hF;obtain ⟨uc,hu0,hu1,hC⟩:=hCC;go_simp
   all_goals first|exact ⟨Below.refl _ _,rfl⟩|exact Below.refl _ _
  case' nq28 =>
   go_simp;refine hK _ ?_;clear hK K
  apply relWalkB_ex rfl rfl ?oq29 (fun K hK=>?nq29)
  case oq29 =>
   intro b W hb hCC hF;obtain ⟨uc,hu0,hu1,hC⟩:=hCC;go_simp
   all_goals first|exact ⟨Below.refl _ _,rfl⟩|exact Below.refl _ _
  case' nq29 =>
   go_simp;refine hK _ ?_;clear hK K
  apply relWalkB_gate rfl rfl rfl ?oq30 (fun K hK=>?nq30)
  case oq30 =>
   intro W hCC hF;obtain ⟨uc,hu0,hu1,hC⟩:=hCC;obtain ⟨hg9,-⟩:=hF;obtain ⟨p9,d9,rfl⟩:=own_form hg9.1;have HA:=hid hg9;have ho:=hC.rows.own _ (List.mem_of_getElem? (i:=1) rfl);obtain ⟨Y,hY⟩:=row_blk ho rfl;have z0:=row_cell ho rfl (HZC.out _);have f0:=hY.frozen (j*2+1);exact relAtR_store rfl (by kernel_rfl) g2 (j*2+1) _ _ _ _ rfl rfl z0 f0 ⟨⟨_,hY⟩,_,HA.out,rfl⟩ rfl
  case' nq30 =>
   go_simp;refine hK _ ?_;clear hK K
  apply relWalkB_end
  intro W hCC hF;obtain ⟨uc,-,hu1,hC⟩:=hCC;obtain ⟨h27,-,-,-⟩:=hF;have h13:=hu1 rfl;clear hu1;obtain ⟨p9,d9,hu9⟩:=own_form h13.1;obtain ⟨p27,d27,hu27⟩:=own_form h27.1;have hff:∃p c,uc=.slice p (x.1.1.eras++[(⟨eo,ek,es,sn,sf,⟨is,y,m,⟨d1,d2,d3⟩,⟨h1,h2⟩⟩⟩:EraP)]).length c:=⟨p9,d9,by rw [List.length_append];exact hu9⟩;have hrr:=RR.era2 (n:=n) (u':=u27) HZS.out HES.out hC.rows HLW.out HXJ.out HQJ.out hff (by show World.ownsRow _ _ _ _ _ _ _;rw [List.length_append,flatC_snoc];exact h13.1) h13.2 (by unfold rInt Row.own;dsimp only;rw [List.length_append,flatC_snoc];exact h27.1) h27.2 rfl;have ho5:=hC.rows.own _ (List.mem_of_getElem? (i:=5) rfl);obtain ⟨Y5,hY5⟩:=row_blk ho5 rfl;have z5:=row_cell ho5 rfl HIC.out;have f5:=hY5.frozen j;have hBg5:B≤g5:=own_base ho5 g5 (by simp [Value.ownBlock,rIrow]);have hout:=hC.out.far (p:=⟨g5,j,none⟩) (fun hx=>absurd (rows_typ (by have hx:g=g5:=hx;subst hx;exact hC.out) hY5) (by show ¬106=32;decide)) u27;have hbox:=hC.box.far (p:=⟨g5,j,none⟩) (fun hx=>absurd (rows_typ (by have hx:gx=g5:=hx;subst hx;exact hC.box) hY5) (by show ¬62=32;decide)) u27;have hbel:=hC.bel.setCell (p:=⟨g5,j,none⟩) hBg5 u27;subst hu27;have HQ:=hid (And.intro hrr (And.intro hout (And.intro hbox hbel)));have HU9:=hid hu9;clear hrr hout hbox hbel ho5 hY5 hBg5 hC h27 h13 hu9 HC HA12 HA21 HL1 HL2 HLW HGX HZC HIC HI1 HI2 HZS HES
  go_upto_region 7 with fail
  clear z5 f5;generalize W.setCell ⟨g5,j,none⟩ _=w4 at *;have z5:=HQ.out.2.2.1.cell_ (i:=5) rfl;have z9:=HQ.out.2.1.cell_ (i:=9) rfl;have f9:=HQ.out.2.1.frozen 9
  go_upto_region 8 with fail
  clear z5 z9 f9;have hrr2:=HQ.out.1.far HQ.out.2.1 (by decide) (j:=9) (.bool is);have hbk:=HQ.out.2.1.set_ 9 (.bool is);have hbl:=HQ.out.2.2.2.setCell (p:=⟨g,9,none⟩) HBG.out (.bool is);have HE:=hid (And.intro hrr2 (And.intro hbk hbl));clear hrr2 hbk hbl HQ;generalize w4.setCell ⟨g,9,none⟩ (.bool is)=w5 at *
  have z0:=row_cell (HE.out.1.rows.own _ (List.mem_of_getElem? (i:=1) rfl)) (g:=g2) (c:=c2) (by show Value.slice (some ⟨g2,0,none⟩) cur.length c2=Value.slice (some ⟨g2,0,none⟩) (cur.set j _).length c2;rw [List.length_set]) (i:=j*2+1) (u:=uc) (by
   have h:=flatC_at (enc:=encZV) (fun x=>(zone_cells x).1) (cur.set j (zvE x ⟨eo,ek,es,sn,sf,⟨is,y,m,⟨d1,d2,d3⟩,⟨h1,h2⟩⟩⟩ uc hff)) j 1 _ (List.getElem?_set_self hjc) (by decide);exact h)
  have hu9:=HU9.out;rw [hu9] at z0;clear hu9;obtain ⟨fe,hfe⟩:∃fe:Int,(if 60<x.1.1.eras.length+1 then 7 else 0)=fe:=⟨_,rfl⟩;rw [hfe] at HX;have HF:=hid (fun W=>show Calls Tryz.prog 116 #[.int .i64 ((x.1.1.eras.length:Int)+1),.int .i64 60] W fun e w'=>e=.returned (errV fe)∧W=w' from by have h:=sfew_any (x.1.1.eras.length+1) 60 W (by have:=HN1.out;omega) (by decide);rw [hfe,Int.natCast_add] at h;exact h);clear hfe;go_wp2_with fail
  refine (HF.out _).mono ?_;rintro e2 w6 ⟨rfl,rfl⟩;clear z0;go_wp2_with fail
  go_ret
  exact ⟨by rw [HX.out];rfl,⟨HBG.out,_,_,⟨v1,.slice (some ⟨g2,0,none⟩) cur.length c2,v3,v4,u1,.slice (some ⟨g5,0,none⟩) el.length c5,u3,u4⟩,by rw [HX.out];exact HE.out.2.1,by rw [HX.out];exact ⟨HE.out.1.rows,HE.out.1.zs,HE.out.1.es⟩⟩,HE.out.2.2⟩
 ·replace HX2:=hid (HX2.out he)
  clear HX;have hq:(en != 0)=true:=by simp [he]
  have hq2:(en==0)=false:=by simp [he]
  clear he
  go_enter Tryz.func82,Tryz.ntmps82;go_wp2_with fail
  refine HP.out.mono ?_;rintro e1 w1 ⟨rfl,hb⟩;have HS1:=hid (And.intro (HS.out.1.below hb HS.out.1.lt) (And.intro (HS.out.2.1.below hb) (And.intro (Nat.le_trans HS.out.2.2 hb.size) (hb.mono HS.out.2.2))));clear hb HS HP;have ha:Below w1.heap.size w1 (w1.alloc (.cells #[.int .i64 eo,.int .i64 ek,.int .i64 es,.string ⟨sn.toArray⟩,.string ⟨sf.toArray⟩,.bool is,.int .i64 y,.int .i64 m,.int .i64 d1,.int .i64 d2,.int .i64 d3,.int .i64 h1,.int .i64 h2] 62)):=(Below.refl _ _).alloc (Nat.le_refl _) _;have HS2:=hid (And.intro (show RdG B g n st (w1.alloc (.cells #[.int .i64 eo,.int .i64 ek,.int .i64 es,.string ⟨sn.toArray⟩,.string ⟨sf.toArray⟩,.bool is,.int .i64 y,.int .i64 m,.int .i64 d1,.int .i64 d2,.int .i64 d3,.int .i64 h1,.int .i64 h2] 62)) from ⟨HBG.out,cur,el,⟨v1,.slice (some ⟨g2,0,none⟩) cur.length c2,v3,v4,u1,.slice (some ⟨g5,0,none⟩) el.length c5,u3,u4⟩,HS1.out.1.below ha HS1.out.1.lt,HS1.out.2.1.below ha⟩) (HS1.out.2.2.2.trans (ha.mono HS1.out.2.2.1)));clear ha HS1;go_wp2_with fail
  refine (wrong_any en _).mono ?_;rintro e2 w3 ⟨rfl,rfl⟩;go_wp2_with fail
  go_ret
  exact ⟨by rw [HX2.out];rfl,by rw [HX2.out];exact HS2.out.1,HS2.out.2⟩
end Go.Proofs.YtboagmbmmoomiaaGreatDoor
