/-
  What is read so far, in rows of the call's own: the rows of the source and of its lines; a rule, a link, a shift, a zone, an era that is added.
-/
import Derived.Test.YtboagmbmmoomiaaGreatDoorRelRows
import Derived.Test.YtboagmbmmoomiaaGreatDoorSrcOwn
import Derived.Test.YtboagmbmmoomiaaGreatDoorSrcPlain
set_option linter.unusedVariables false
set_option linter.unusedSimpArgs false
set_option maxRecDepth 100000
set_option maxHeartbeats 4000000
namespace Go.Proofs.YtboagmbmmoomiaaGreatDoor
open Go.RowKit Go.Shelf
theorem flatC_cons_ {α:Type} (enc:α→Array Value) (a:α) (l:List α):flatC enc (a::l)=(enc a).toList++flatC enc l:=by simp [flatC]
theorem flatC_put_ {α:Type} (enc:α→Array Value) {m:Nat} (hs:∀x,(enc x).size=m) (u:Value) (j:Nat) (hj:j<m):∀(l:List α) (k:Nat) (x y:α),l[k]? = some x→(enc y).toList=(enc x).toList.set j u→flatC enc (l.set k y)=(flatC enc l).set (k*m+j) u
 | [],_,_,_,h,_=>by simp at h
 | a::l,0,x,y,h,e=>by
  simp only [List.getElem?_cons_zero,Option.some.injEq] at h;subst h;rw [List.set_cons_zero,flatC_cons_,flatC_cons_,e,List.set_append_left _ _ (by rw [Array.length_toList,hs];omega),Nat.zero_mul,Nat.zero_add]
 | a::l,k+1,x,y,h,e=>by
  have ih:=flatC_put_ enc hs u j hj l k x y (by simpa using h) e;have hm:(k+1)*m=k*m+m:=Nat.succ_mul k m;rw [List.set_cons_succ,flatC_cons_,flatC_cons_,ih,List.set_append_right _ _ (by rw [Array.length_toList,hs,hm];omega),Array.length_toList,hs,hm,show k*m+m+j-m=k*m+j by omega]
theorem set_mid {α:Type} (A M N:List α) {j q:Nat} {r:α} (hj:j<M.length) (hq:q=A.length+j):(A++M++N).set q r=A++M.set j r++N:=by
 subst hq;rw [List.append_assoc,List.set_append_right _ _ (by omega),List.set_append_left _ _ (by omega),Nat.add_sub_cancel_left,List.append_assoc]
theorem set_end {α:Type} (A M N:List α) {j q:Nat} {r:α} (hq:q=A.length+M.length+j):(A++M++N).set q r=A++M++N.set j r:=by
 subst hq;rw [List.set_append_right _ _ (by simp),List.length_append,Nat.add_sub_cancel_left]
def encI (x:Int):Array Value:=#[.int .i64 x]
abbrev IV:=Value × List Int
def encW (q:IV):Array Value:=#[q.1]
def rEra (q:ZV):Row:=⟨62,13,q.1.1.eras.length,flatC EraP.cells q.1.1.eras,q.1.2⟩
def rInt (l:List Int) (v:Value):Row:=⟨3,1,l.length,flatC encI l,v⟩
def rRule (l:List RuleP) (v:Value):Row:=⟨55,11,l.length,flatC RuleP.cells l,v⟩
def rZone (l:List ZV) (v:Value):Row:=⟨58,2,l.length,flatC encZV l,v⟩
def rLink (l:List LinkP) (v:Value):Row:=⟨64,2,l.length,flatC LinkP.cells l,v⟩
def rStr (l:List (List UInt8)) (v:Value):Row:=⟨9,1,l.length,flatC encS l,v⟩
def rIrow (l:List IV) (v:Value):Row:=⟨32,1,l.length,flatC encW l,v⟩
structure V8 where
 v1:Value
 v2:Value
 v3:Value
 v4:Value
 u1:Value
 u2:Value
 u3:Value
 u4:Value
def V8.none:V8:=⟨.slice .none 0 0,.slice .none 0 0,.slice .none 0 0,.slice .none 0 0,.slice .none 0 0,.slice .none 0 0,.slice .none 0 0,.slice .none 0 0⟩
def rdRows (st:RdP) (cur:List ZV) (el:List IV) (v:V8):List Row :=
 [rRule st.s.rules v.v1,rZone cur v.v2,rLink st.s.links v.v3,rStr st.s.shifts v.v4,rInt st.l.rules v.u1,rIrow el v.u2,rInt st.l.links v.u3,rInt st.l.shifts v.u4]++cur.map rEra++el.map (fun q=>rInt q.2 q.1)
structure RR (B:Nat) (st:RdP) (cur:List ZV) (el:List IV) (v:V8) (W:World):Prop where
 rows:Rows B (rdRows st cur el v) W
 zs:cur.map (fun q=>q.1.1)=st.s.zones
 es:el.map (fun q=>q.2)=st.l.eras
section
variable {B:Nat} {st:RdP} {cur:List ZV} {el:List IV} {v:V8} {W W':World}
theorem RR.below (h:RR B st cur el v W) (hb:Below W.heap.size W W'):RR B st cur el v W':=⟨h.rows.below hb,h.zs,h.es⟩
theorem RR.zlen (h:RR B st cur el v W):cur.length=st.s.zones.length:=by rw [←h.zs,List.length_map]
theorem RR.elen (h:RR B st cur el v W):el.length=st.l.eras.length:=by rw [←h.es,List.length_map]
theorem RR.none_ (W:World) (B:Nat):RR B RdP.none [] [] V8.none W:=by
 refine ⟨⟨fun r hr=>?_,?_⟩,rfl,rfl⟩
 ·simp only [rdRows,List.map_nil,List.append_nil,List.mem_cons,List.not_mem_nil,or_false] at hr
  rcases hr with rfl|rfl|rfl|rfl|rfl|rfl|rfl|rfl<;>exact World.ownsRow_nil ..
 ·refine List.pairwise_iff_getElem.2 fun a b ha hb _=>.inr (.inl ?_)
  have:∀r ∈ rdRows RdP.none [] [] V8.none,r.v.ownBlock=none:=by
   intro r hr;simp only [rdRows,List.map_nil,List.append_nil,List.mem_cons,List.not_mem_nil,or_false] at hr
   rcases hr with rfl|rfl|rfl|rfl|rfl|rfl|rfl|rfl<;>rfl
  exact this _ (List.getElem_mem ha)
theorem rd_types (st:RdP) (cur:List ZV) (el:List IV) (v:V8) {T:Nat} (h:55≠T∧58≠T∧64≠T∧9≠T∧3≠T∧32≠T∧62≠T):∀r ∈ rdRows st cur el v,r.e≠T:=fun r hr=>by
 obtain ⟨h1,h2,h3,h4,h5,h6,h7⟩:=h;unfold rdRows at hr
 rcases List.mem_append.1 hr with hr|hr
 ·rcases List.mem_append.1 hr with hr|hr
  ·simp only [List.mem_cons,List.not_mem_nil,or_false] at hr
   rcases hr with rfl|rfl|rfl|rfl|rfl|rfl|rfl|rfl<;>assumption
  ·obtain ⟨q,_,rfl⟩:=List.mem_map.1 hr
   exact h7
 ·obtain ⟨q,_,rfl⟩:=List.mem_map.1 hr
  exact h5
theorem RR.far (h:RR B st cur el v W) {q T j:Nat} {C:Array Value} (hq:Blk W q T C) (hT:55≠T∧58≠T∧64≠T∧9≠T∧3≠T∧32≠T∧62≠T) (u:Value):RR B st cur el v (W.setCell ⟨q,j,none⟩ u):=⟨h.rows.far hq (rd_types st cur el v hT) u,h.zs,h.es⟩
theorem rd_era (st:RdP) (cur:List ZV) (el:List IV) (v:V8) {j:Nat} {x:ZV} (hx:cur[j]? = some x):(rdRows st cur el v)[8+j]? = some (rEra x):=by
 have hj:=(List.getElem?_eq_some_iff.1 hx).1;unfold rdRows;rw [List.append_assoc,List.getElem?_append_right (by simp),List.getElem?_append_left (by simp;omega)]
 simp [hx]
theorem rd_int (st:RdP) (cur:List ZV) (el:List IV) (v:V8) {j:Nat} {x:IV} (hx:el[j]? = some x):(rdRows st cur el v)[8+cur.length+j]? = some (rInt x.2 x.1):=by
 unfold rdRows;rw [List.getElem?_append_right (by simp;omega)]
 simp [hx,show 8+cur.length+j-(cur.length+1+1+1+1+1+1+1+1)=j by omega]
theorem RR.eo (h:RR B st cur el v W) {x:ZV} (hx:x ∈ cur):EraO B x.1.1.eras x.1.2 W:=h.rows.own (rEra x) (List.mem_append_left _ (List.mem_append_right _ (List.mem_map_of_mem hx)))
theorem RR.io (h:RR B st cur el v W) {x:IV} (hx:x ∈ el):(rInt x.2 x.1).own B W:=h.rows.own _ (List.mem_append_right _ (List.mem_map.2 ⟨x,hx,rfl⟩))
theorem RR.src (h:RR B st cur el v W):SrcIs W W.heap.size v.v1 v.v2 v.v3 v.v4 (cur.map (·.1)) st.s:=by
 have h1:RuleO B st.s.rules v.v1 W:=h.rows.own _ (List.mem_of_getElem? (i:=0) rfl);have h2:ZoneO B cur v.v2 W:=h.rows.own _ (List.mem_of_getElem? (i:=1) rfl);have h3:LinkO B st.s.links v.v3 W:=h.rows.own _ (List.mem_of_getElem? (i:=2) rfl);have h4:StrO B st.s.shifts v.v4 W:=h.rows.own _ (List.mem_of_getElem? (i:=3) rfl)
 exact ⟨rows_of_own (by decide) (fun x=>(rule_cells x).1) h1,by
  have hz:=rows_of_own (by decide) (fun x=>(zone_cells x).1) h2;obtain ⟨p,c,e⟩:=own_form h2;rw [e] at hz ⊢;exact RowsAt.map_ hz rfl,by rw [←h.zs];simp only [List.map_map];rfl,fun q hq=>by
  obtain ⟨x,hx,rfl⟩:=List.mem_map.1 hq;exact rows_of_own (by decide) (fun x=>(eraOk_cells x).1) (h.eo hx),rows_of_own (by decide) (fun x=>(link_cells x).1) h3,rows_of_own (by decide) (fun x=>rfl) h4⟩
end
def LnIs (w:World) (n₀:Nat) (u1 u2 u3 u4:Value) (el:List IV) (l:LinesP):Prop :=
 RowsAt w n₀ 1 encI u1 l.rules∧RowsAt w n₀ 1 encW u2 el∧el.map (fun q=>q.2)=l.eras∧(∀q ∈ el,RowsAt w n₀ 1 encI q.1 q.2)∧RowsAt w n₀ 1 encI u3 l.links∧RowsAt w n₀ 1 encI u4 l.shifts
theorem RR.ln {B:Nat} {st:RdP} {cur:List ZV} {el:List IV} {v:V8} {W:World} (h:RR B st cur el v W):LnIs W W.heap.size v.u1 v.u2 v.u3 v.u4 el st.l:=by
 have h1:W.ownsRow B 3 1 v.u1 st.l.rules.length (flatC encI st.l.rules):=h.rows.own _ (List.mem_of_getElem? (i:=4) rfl);have h2:W.ownsRow B 32 1 v.u2 el.length (flatC encW el):=h.rows.own _ (List.mem_of_getElem? (i:=5) rfl);have h3:W.ownsRow B 3 1 v.u3 st.l.links.length (flatC encI st.l.links):=h.rows.own _ (List.mem_of_getElem? (i:=6) rfl);have h4:W.ownsRow B 3 1 v.u4 st.l.shifts.length (flatC encI st.l.shifts):=h.rows.own _ (List.mem_of_getElem? (i:=7) rfl);exact ⟨rows_of_own (by decide) (fun x=>rfl) h1,rows_of_own (by decide) (fun x=>rfl) h2,h.es,fun q hq=>rows_of_own (by decide) (fun x=>rfl) (h.io hq),rows_of_own (by decide) (fun x=>rfl) h3,rows_of_own (by decide) (fun x=>rfl) h4⟩
theorem LnIs.below {w W:World} {n₀:Nat} {u1 u2 u3 u4:Value} {el:List IV} {l:LinesP} (h:LnIs w n₀ u1 u2 u3 u4 el l) (hb:Below n₀ w W):LnIs W n₀ u1 u2 u3 u4 el l :=
 ⟨h.1.below hb,h.2.1.below hb,h.2.2.1,fun q hq=>(h.2.2.2.1 q hq).below hb,h.2.2.2.2.1.below hb,h.2.2.2.2.2.below hb⟩
section
variable {B L:Nat} {st:RdP} {cur:List ZV} {el:List IV} {v:V8} {W:World}
theorem RR.rule (h:RR B st cur el v W) (hlow:LowRows L (rdRows st cur el v)) {x:RuleP} {n:Int} {u u':Value} (hu:(rRule (st.s.rules++[x]) u).own B W) (hr:Renewed L v.v1 u) (hu':(rInt (st.l.rules++[n]) u').own B W) (hr':Renewed L v.u1 u') :
 RR B ⟨⟨st.s.rules++[x],st.s.zones,st.s.links,st.s.shifts⟩,⟨st.l.rules++[n],st.l.eras,st.l.links,st.l.shifts⟩,st.op⟩ cur el ⟨u,v.v2,v.v3,v.v4,u',v.u2,v.u3,v.u4⟩ W :=
 ⟨h.rows.put2 hlow (i:=0) (j:=4) rfl rfl (by decide) (by show 55≠3;decide) hu rfl hr hu' rfl hr',h.zs,h.es⟩
theorem RR.link (h:RR B st cur el v W) (hlow:LowRows L (rdRows st cur el v)) {x:LinkP} {n:Int} {u u':Value} (hu:(rLink (st.s.links++[x]) u).own B W) (hr:Renewed L v.v3 u) (hu':(rInt (st.l.links++[n]) u').own B W) (hr':Renewed L v.u3 u') :
 RR B ⟨⟨st.s.rules,st.s.zones,st.s.links++[x],st.s.shifts⟩,⟨st.l.rules,st.l.eras,st.l.links++[n],st.l.shifts⟩,st.op⟩ cur el ⟨v.v1,v.v2,u,v.v4,v.u1,v.u2,u',v.u4⟩ W :=
 ⟨h.rows.put2 hlow (i:=2) (j:=6) rfl rfl (by decide) (by show 64≠3;decide) hu rfl hr hu' rfl hr',h.zs,h.es⟩
theorem RR.shift (h:RR B st cur el v W) (hlow:LowRows L (rdRows st cur el v)) {x:List UInt8} {n:Int} {u u':Value} (hu:(rStr (st.s.shifts++[x]) u).own B W) (hr:Renewed L v.v4 u) (hu':(rInt (st.l.shifts++[n]) u').own B W) (hr':Renewed L v.u4 u') :
 RR B ⟨⟨st.s.rules,st.s.zones,st.s.links,st.s.shifts++[x]⟩,⟨st.l.rules,st.l.eras,st.l.links,st.l.shifts++[n]⟩,st.op⟩ cur el ⟨v.v1,v.v2,v.v3,u,v.u1,v.u2,v.u3,u'⟩ W :=
 ⟨h.rows.put2 hlow (i:=3) (j:=7) rfl rfl (by decide) (by show 9≠3;decide) hu rfl hr hu' rfl hr',h.zs,h.es⟩
def zv0 (a:List UInt8):ZV:=⟨(⟨a,[]⟩,.slice none 0 0),none,0,rfl⟩
theorem RR.zone (h:RR B st cur el v W) (hlow:LowRows L (rdRows st cur el v)) {a:List UInt8} {u u':Value} (hu:(rZone (cur++[zv0 a]) u).own B W) (hr:Renewed L v.v2 u) (hu':(rIrow (el++[(.slice none 0 0,[])]) u').own B W) (hr':Renewed L v.u2 u') :
 RR B (st.zone a) (cur++[zv0 a]) (el++[(.slice none 0 0,[])]) ⟨v.v1,u,v.v3,v.v4,v.u1,u',v.u3,v.u4⟩ W:=by
 have h1:=h.rows.put2 hlow (i:=1) (j:=5) (r:=rZone cur v.v2) (s:=rIrow el v.u2) rfl rfl (by decide) (by show 58≠32;decide) hu rfl hr hu' rfl hr';refine ⟨((h1.push (e:=62) (k:=13)).push (e:=3) (k:=1)).perm ?_,by simp [RdP.zone,h.zs,zv0],by simp [RdP.zone,h.es]⟩;have e1:((rdRows st cur el v).set 1 (rZone (cur++[zv0 a]) u)).set 5 (rIrow (el++[(.slice none 0 0,[])]) u')=[rRule st.s.rules v.v1,rZone (cur++[zv0 a]) u,rLink st.s.links v.v3,rStr st.s.shifts v.v4,rInt st.l.rules v.u1,rIrow (el++[(.slice none 0 0,[])]) u',rInt st.l.links v.u3,rInt st.l.shifts v.u4]++cur.map rEra++el.map (fun q=>rInt q.2 q.1):=rfl;rw [e1]
 show (_++[rEra (zv0 a)]++[rInt [] (.slice none 0 0)]:List Row).Perm _
 unfold rdRows RdP.zone;rw [List.map_append,List.map_append];simp only [List.map_cons,List.map_nil,List.append_assoc];refine List.Perm.append_left _ (List.Perm.append_left _ ?_);rw [←List.append_assoc,←List.append_assoc];exact List.Perm.append_right _ List.perm_append_comm
theorem rd_sets (st:RdP) (cur:List ZV) (el:List IV) (v:V8) (j i:Nat) (x y:ZV) (z:IV) (hx:cur[j]? = some x) (hn:y.1.1.name=x.1.1.name) (hi:i<el.length) :
 ((((rdRows st cur el v).set (8+j) (rEra y)).set (8+cur.length+i) (rInt z.2 z.1)).set 1 ⟨58,2,cur.length,(flatC encZV cur).set (j*2+1) y.1.2,v.v2⟩).set 5 ⟨32,1,el.length,(flatC encW el).set (i*1+0) z.1,v.u2⟩=rdRows st (cur.set j y) (el.set i z) v:=by
 have hj:=(List.getElem?_eq_some_iff.1 hx).1;have e1:flatC encZV (cur.set j y)=(flatC encZV cur).set (j*2+1) y.1.2:=flatC_put_ encZV (fun x=>(zone_cells x).1) y.1.2 1 (by decide) cur j x y hx (by simp [encZV,encZ,hn]);have e2:flatC encW (el.set i z)=(flatC encW el).set (i*1+0) z.1:=flatC_put_ encW (fun x=>rfl) z.1 0 (by decide) el i el[i] z (List.getElem?_eq_getElem hi) (by simp [encW])
 have e3:(rdRows st cur el v).set (8+j) (rEra y)=[rRule st.s.rules v.v1,rZone cur v.v2,rLink st.s.links v.v3,rStr st.s.shifts v.v4,rInt st.l.rules v.u1,rIrow el v.u2,rInt st.l.links v.u3,rInt st.l.shifts v.u4]++(cur.set j y).map rEra++el.map (fun q=>rInt q.2 q.1):=by
  unfold rdRows;rw [set_mid (q:=8+j) (j:=j) _ _ _ (by simpa using hj) (by rfl),List.map_set]
 rw [e3,set_end _ _ _ (j:=i) (by simp),←e1,←e2];unfold rdRows;rw [List.map_set (f:=fun q:IV=>rInt q.2 q.1)];have l1:(cur.set j y).length=cur.length:=List.length_set;have l2:(el.set i z).length=el.length:=List.length_set;unfold rZone rIrow;rw [l1,l2]
 rfl
def zvE (x:ZV) (e:EraP) (u:Value) (hu:∃p c,u=.slice p (x.1.1.eras++[e]).length c):ZV:=⟨(⟨x.1.1.name,x.1.1.eras++[e]⟩,u),hu⟩
theorem RR.era (h:RR B st cur el v W) (hlow:LowRows L (rdRows st cur el v)) {j:Nat} {x:ZV} (hx:cur[j]? = some x) {e:EraP} {q:IV} (hq:el[j]? = some q) {n:Int} {u u':Value} (hf:∃p c,u=.slice p (x.1.1.eras++[e]).length c) (hu:EraO B (x.1.1.eras++[e]) u W) (hr:Renewed L x.1.2 u) (hu':(rInt (q.2++[n]) u').own B W) (hr':Renewed L q.1 u')
 {g2 c2 g5 c5:Nat} (h2:v.v2=.slice (some ⟨g2,0,none⟩) cur.length c2) (h5:v.u2=.slice (some ⟨g5,0,none⟩) el.length c5) :
 RR B ⟨⟨st.s.rules,st.s.zones.set j ⟨x.1.1.name,x.1.1.eras++[e]⟩,st.s.links,st.s.shifts⟩,⟨st.l.rules,st.l.eras.set j (q.2++[n]),st.l.links,st.l.shifts⟩,st.op⟩ (cur.set j (zvE x e u hf)) (el.set j (u',q.2++[n])) v ((W.setCell ⟨g2,j*2+1,none⟩ u).setCell ⟨g5,j*1+0,none⟩ u'):=by
 have hj:=(List.getElem?_eq_some_iff.1 hx).1;have hi:=(List.getElem?_eq_some_iff.1 hq).1;have h1:=h.rows.put2 hlow (i:=8+j) (j:=8+cur.length+j) (r':=rEra (zvE x e u hf)) (s':=rInt (q.2++[n]) u') (rd_era st cur el v hx) (rd_int st cur el v hq) (by omega) (by show 62≠3;decide) hu rfl hr hu' rfl hr'
 have k1:(((rdRows st cur el v).set (8+j) (rEra (zvE x e u hf))).set (8+cur.length+j) (rInt (q.2++[n]) u'))[1]? = some ⟨58,2,cur.length,flatC encZV cur,.slice (some ⟨g2,0,none⟩) cur.length c2⟩:=by
  rw [List.getElem?_set_ne (by omega),List.getElem?_set_ne (by omega),←h2]
  rfl
 have h3:=h1.store k1 (q:=j*2+1) u
 have k2:((((rdRows st cur el v).set (8+j) (rEra (zvE x e u hf))).set (8+cur.length+j) (rInt (q.2++[n]) u')).set 1 ⟨58,2,cur.length,(flatC encZV cur).set (j*2+1) u,.slice (some ⟨g2,0,none⟩) cur.length c2⟩)[5]? = some ⟨32,1,el.length,flatC encW el,.slice (some ⟨g5,0,none⟩) el.length c5⟩:=by
  rw [List.getElem?_set_ne (by omega),List.getElem?_set_ne (by omega),List.getElem?_set_ne (by omega),←h5]
  rfl
 have h4:=h3.store k2 (q:=j*1+0) u';have e1:=rd_sets st cur el v j j x (zvE x e u hf) (u',q.2++[n]) hx rfl hi;rw [h2,h5] at e1;refine ⟨?_,by rw [List.map_set,h.zs];rfl,by rw [List.map_set,h.es]⟩;have e4:rdRows st (cur.set j (zvE x e u hf)) (el.set j (u',q.2++[n])) v=rdRows ⟨⟨st.s.rules,st.s.zones.set j ⟨x.1.1.name,x.1.1.eras++[e]⟩,st.s.links,st.s.shifts⟩,⟨st.l.rules,st.l.eras.set j (q.2++[n]),st.l.links,st.l.shifts⟩,st.op⟩ (cur.set j (zvE x e u hf)) (el.set j (u',q.2++[n])) v:=rfl;rw [←e4,←e1];exact h4
end
end Go.Proofs.YtboagmbmmoomiaaGreatDoor
