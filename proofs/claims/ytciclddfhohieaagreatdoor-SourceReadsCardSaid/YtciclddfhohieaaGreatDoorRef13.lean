/-
  The reference's reader of layer 13: a rule, a link, a shift are read into rows of the call's own.
-/
import Derived.Test.YtciclddfhohieaaGreatDoorSrcRead2
import Derived.Test.YtciclddfhohieaaGreatDoorRef12
import Derived.Test.YtciclddfhohieaaGreatDoorRef10q
set_option linter.unusedVariables false
set_option linter.unusedSimpArgs false
set_option maxRecDepth 100000
set_option maxHeartbeats 4000000
namespace Go.Proofs.YtciclddfhohieaaGreatDoor
open Go.RowKit Go.Shelf
theorem wpList_append_push {P:Program} {ops:Array Oper} {rest:List Oper} {o:Oper} {a:Act} {Q:Exit→Act→World→Prop} {w:World} (hgd:o.guard=none) (s x:Operand) (t e:Nat)
 (ho:o.op=.call { callee:=.builtin .append,args:=#[s,x],argTypes:=#[t,t] }) (B L:Nat) (i:TypeInfo) (z:Value) (size:Nat) (ht:P.underlying t=some (.slice e)) (hi:P.info? e=some i) (hz:i.zero=some z) (hsize:i.size=size) (hby:i.bytes≤1000) (hzs:z.cells.size=size) (hsz:0<size)
 (v:Value) (n:Nat) (xs:List Value) (hs:a.eval s=v) (hv:w.ownsRow B e size v n xs) (g' c:Nat) (C:Array Value) (hx:a.eval x=.slice (some ⟨g',0,none⟩) 1 c) (hr:Blk w g' e C) (hC:C.size=size) (h1:∀u ∈ C.toList,u.oneCell'=true) (hn:n≤1048576) (hB:B≤w.heap.size) (hL:L≤w.heap.size)
 (h:∀u w',GrownR e size B L v (n+1) (xs++C.toList) u w'→GOwn e size B n xs v w w'→wpList P ops Q rest (a.put o.dst u) w'):wpList P ops Q (o::rest) a w :=
 wpList_plain hgd fun _ hK=>by
 obtain ⟨v',w',hrun,hown,hg⟩:=run_append_push w B t o.type e i z size ht hi hz hsize hby hzs hsz v n xs hv g' c C hr hC h1 hn hB
 have hb2:(n+1)*i.bytes≤140737488355328:=by
  have:(n+1)*i.bytes≤1048577*1000:=Nat.mul_le_mul (by omega) hby
  omega
 have hc:∀j u,C.toList[j]? = some u→w.cell? ((⟨g',0,none⟩:Addr).add j)=some u:=fun j u hu=>by
  rw [Addr.add_lit,Nat.zero_add];exact hr.cell_ (by simpa using hu)
 obtain ⟨v2,w2,hrun2,_,_,_,hat⟩:=Go.run_append_own_at (P:=P) (w:=w) B t o.type e i z size i.bytes ht hi hz hsize rfl hzs hsz v n xs hv ⟨g',0,none⟩ 1 c C.toList (by simp [hC]) hc h1 (by unfold maxLen;omega) hb2 hB;rw [hrun] at hrun2
 injection hrun2 with e1 e2
 subst e1 e2
 have hren:Renewed L v v':=by
  rcases hat with h|h
  ·exact .inl h
  ·exact .inr ⟨_,h,hL⟩
 unfold Oper.wp execOp;simp only [ho,resolve,invoke,builtin,Sem.run_bind,Sem.run_pure,Result.andThen_ok,List.map_toArray,List.map_cons,List.map_nil,hs,hx,hrun];exact hK _ _ (h v' w' ⟨hown,hren⟩ hg)
abbrev RdH (B g:Nat) (st:RdP) (W:World):Prop:=RdAt 80 B g [.bool st.op] st W
section
variable {B g L RT gx T:Nat} {w W W':World} {RC RC' X:Array Value} {st st':RdP} {cur cur':List ZV} {el el':List IV} {v v':V8}
theorem RX.put {j:Nat} {u:Value} (h:RX B g L RT w RC st cur el v gx T X W) (hr:RR B st' cur' el' v' W) (hRT:RTypes RT) (hT:T≠RT) (hBg:B≤g) (hset:RC.setIfInBounds j u=RC'):RX B g L RT w RC' st' cur' el' v' gx T X (W.setCell ⟨g,j,none⟩ u) :=
 ⟨hr.far h.out hRT u,by have:=h.out.set_ j u;rw [hset] at this;exact this,fun h0=>(h.box h0).far (fun hx=>hT (by have hx:gx=g:=hx;subst hx;exact rows_typ (h.box h0) h.out)) u,h.bel.setCell hBg u,by simpa using h.lsz,h.bl⟩
theorem RX.now (h:RX B g L RT w RC st cur el v gx T X W):RX B g W.heap.size RT w RC st cur el v gx T X W:=⟨h.rr,h.out,h.box,h.bel,Nat.le_refl _,Nat.le_trans h.bl h.lsz⟩
theorem RX.bare (h:RX B g L RT w RC st cur el v gx T X W):RX B g L RT w RC st cur el v 0 0 #[] W:=⟨h.rr,h.out,fun h0=>absurd rfl h0,h.bel,h.lsz,h.bl⟩
theorem RR.rule1 (h:RR B st cur el v W) (hlow:LowRows L (rdRows st cur el v)) {x:RuleP} {u:Value} (hu:(rRule (st.s.rules++[x]) u).own B W) (hr:Renewed L v.v1 u):RR B ⟨⟨st.s.rules++[x],st.s.zones,st.s.links,st.s.shifts⟩,st.l,st.op⟩ cur el ⟨u,v.v2,v.v3,v.v4,v.u1,v.u2,v.u3,v.u4⟩ W :=
 ⟨h.rows.put_ (i:=0) rfl hu rfl hr (fun s hs _=>hlow s hs),h.zs,h.es⟩
theorem RR.ruleN (h:RR B st cur el v W) (hlow:LowRows L (rdRows st cur el v)) {n:Int} {u:Value} (hu:(rInt (st.l.rules++[n]) u).own B W) (hr:Renewed L v.u1 u):RR B ⟨st.s,⟨st.l.rules++[n],st.l.eras,st.l.links,st.l.shifts⟩,st.op⟩ cur el ⟨v.v1,v.v2,v.v3,v.v4,u,v.u2,v.u3,v.u4⟩ W :=
 ⟨h.rows.put_ (i:=4) rfl hu rfl hr (fun s hs _=>hlow s hs),h.zs,h.es⟩
theorem RR.link1 (h:RR B st cur el v W) (hlow:LowRows L (rdRows st cur el v)) {x:LinkP} {u:Value} (hu:(rLink (st.s.links++[x]) u).own B W) (hr:Renewed L v.v3 u):RR B ⟨⟨st.s.rules,st.s.zones,st.s.links++[x],st.s.shifts⟩,st.l,st.op⟩ cur el ⟨v.v1,v.v2,u,v.v4,v.u1,v.u2,v.u3,v.u4⟩ W :=
 ⟨h.rows.put_ (i:=2) rfl hu rfl hr (fun s hs _=>hlow s hs),h.zs,h.es⟩
theorem RR.linkN (h:RR B st cur el v W) (hlow:LowRows L (rdRows st cur el v)) {n:Int} {u:Value} (hu:(rInt (st.l.links++[n]) u).own B W) (hr:Renewed L v.u3 u):RR B ⟨st.s,⟨st.l.rules,st.l.eras,st.l.links++[n],st.l.shifts⟩,st.op⟩ cur el ⟨v.v1,v.v2,v.v3,v.v4,v.u1,v.u2,u,v.u4⟩ W :=
 ⟨h.rows.put_ (i:=6) rfl hu rfl hr (fun s hs _=>hlow s hs),h.zs,h.es⟩
theorem RR.shift1 (h:RR B st cur el v W) (hlow:LowRows L (rdRows st cur el v)) {x:List UInt8} {u:Value} (hu:(rStr (st.s.shifts++[x]) u).own B W) (hr:Renewed L v.v4 u):RR B ⟨⟨st.s.rules,st.s.zones,st.s.links,st.s.shifts++[x]⟩,st.l,st.op⟩ cur el ⟨v.v1,v.v2,v.v3,u,v.u1,v.u2,v.u3,v.u4⟩ W :=
 ⟨h.rows.put_ (i:=3) rfl hu rfl hr (fun s hs _=>hlow s hs),h.zs,h.es⟩
theorem RR.shiftN (h:RR B st cur el v W) (hlow:LowRows L (rdRows st cur el v)) {n:Int} {u:Value} (hu:(rInt (st.l.shifts++[n]) u).own B W) (hr:Renewed L v.u4 u):RR B ⟨st.s,⟨st.l.rules,st.l.eras,st.l.links,st.l.shifts++[n]⟩,st.op⟩ cur el ⟨v.v1,v.v2,v.v3,v.v4,v.u1,v.u2,v.u3,u⟩ W :=
 ⟨h.rows.put_ (i:=7) rfl hu rfl hr (fun s hs _=>hlow s hs),h.zs,h.es⟩
theorem RR.zone1 (h:RR B st cur el v W) (hlow:LowRows L (rdRows st cur el v)) {a:List UInt8} {u:Value} (hu:(rZone (cur++[zv0 a]) u).own B W) (hr:Renewed L v.v2 u):RR B ⟨⟨st.s.rules,st.s.zones++[⟨a,[]⟩],st.s.links,st.s.shifts⟩,st.l,st.op⟩ (cur++[zv0 a]) el ⟨v.v1,u,v.v3,v.v4,v.u1,v.u2,v.u3,v.u4⟩ W:=by
 have h1:=h.rows.put_ (i:=1) (r:=rZone cur v.v2) rfl hu rfl hr (fun s hs _=>hlow s hs);refine ⟨(h1.push (e:=63) (k:=13)).perm ?_,by simp [h.zs,zv0],h.es⟩;have e1:(rdRows st cur el v).set 1 (rZone (cur++[zv0 a]) u)=[rRule st.s.rules v.v1,rZone (cur++[zv0 a]) u,rLink st.s.links v.v3,rStr st.s.shifts v.v4,rInt st.l.rules v.u1,rIrow el v.u2,rInt st.l.links v.u3,rInt st.l.shifts v.u4]++cur.map rEra++el.map (fun q=>rInt q.2 q.1):=rfl;rw [e1]
 show (_++[rEra (zv0 a)]:List Row).Perm _
 unfold rdRows;rw [List.map_append];simp only [List.map_cons,List.map_nil,List.append_assoc];exact List.Perm.append_left _ (List.Perm.append_left _ List.perm_append_comm)
theorem RR.zoneN (h:RR B st cur el v W) (hlow:LowRows L (rdRows st cur el v)) {u:Value} (hu:(rIrow (el++[(.slice none 0 0,[])]) u).own B W) (hr:Renewed L v.u2 u):RR B ⟨st.s,⟨st.l.rules,st.l.eras++[[]],st.l.links,st.l.shifts⟩,st.op⟩ cur (el++[(.slice none 0 0,[])]) ⟨v.v1,v.v2,v.v3,v.v4,v.u1,u,v.u3,v.u4⟩ W:=by
 have h1:=h.rows.put_ (i:=5) (r:=rIrow el v.u2) rfl hu rfl hr (fun s hs _=>hlow s hs);refine ⟨?_,h.zs,by simp [h.es]⟩;have h2:=h1.push (e:=3) (k:=1)
 have e1:(rdRows st cur el v).set 5 (rIrow (el++[(.slice none 0 0,[])]) u)++[⟨3,1,0,[],.slice none 0 0⟩]=rdRows ⟨st.s,⟨st.l.rules,st.l.eras++[[]],st.l.links,st.l.shifts⟩,st.op⟩ cur (el++[(.slice none 0 0,[])]) ⟨v.v1,v.v2,v.v3,v.v4,v.u1,u,v.u3,v.u4⟩:=by
  unfold rdRows;rw [List.map_append,←List.append_assoc]
  rfl
 rw [e1] at h2;exact h2
end
theorem r13rule_any (B g:Nat) (st:RdP) (n:Int) (b o k c:Nat) (ls:List (List UInt8)) (w:World) (h:RdH B g st w) (hr:StrRow w b o ls) (hn:ls.length=k) (hl:∀l ∈ ls,l.length≤1048576) (hm:k≤1000000) (hsm:RdSm st) :
 Calls Tryz.prog 60 #[.pointer (some ⟨g,0,none⟩),.slice (some ⟨b,o,none⟩) k c,.int .i64 n] w fun e w'=>e=.returned (.int .i64 (ruleS st n ls).2)∧RdH B g (ruleS st n ls).1 w'∧Below B w w':=by
 obtain ⟨hBg,cur,el,⟨v1,v2,v3,v4,u1,u2,u3,u4⟩,hblk,hrr⟩:=h;obtain ⟨ix,zx,hix,hzx,hszx,hbyx,hzcx⟩:=info_st (P:=Tryz.prog) (e:=84) (k:=11) (by kernel_rfl);obtain ⟨ii,zi,hii,hzi,hszi,hbyi,hzci⟩:=info_st (P:=Tryz.prog) (e:=3) (k:=1) (by kernel_rfl);obtain ⟨⟨nm,fr,til,mo,⟨d1,d2,d3⟩,⟨h1,h2⟩,sv,lt⟩,en,hx⟩:∃x e,ruleR ls=(x,e):=⟨_,_,rfl⟩;have HP:=Lib.hid (r10parse_any b o k c ls w hr hn hl);rw [hx] at HP;simp only [ruleV,RuleP.cells] at HP;have HX:=Lib.hid (show ruleS st n ls=_ from by unfold ruleS;rw [hx]);have HRT:=Lib.hid (show RTypes 80 from by decide);have HS:=Lib.hid (And.intro (hblk) (And.intro (hrr) (Nat.le_trans hBg (Nat.le_of_lt hblk.lt))));have HN1:=Lib.hid (show st.s.rules.length≤1048576 from by have:=hsm.rules.1;omega);have HN2:=Lib.hid (show st.l.rules.length≤1048576 from by have:=hsm.rules.2;omega);have HSM:=Lib.hid hsm.rules.1;have HBG:=Lib.hid hBg;clear hx hr hn hl hm hsm hblk hrr hBg
 by_cases he:en=0
 ·subst he
  rw [if_neg (by simp)] at HX
  go_enter Tryz.func60,Tryz.ntmps60;go_wp2_with fail
  refine HP.out.mono ?_;rintro e1 w1 ⟨rfl,hb⟩;have HS1:=Lib.hid (And.intro (HS.out.1.below hb HS.out.1.lt) (And.intro (HS.out.2.1.below hb) (And.intro (Nat.le_trans HS.out.2.2 hb.size) (hb.mono HS.out.2.2))));clear hb HS HP
  go_upto_region 4 with fail
  have ha:Below w1.heap.size w1 (w1.alloc (.cells #[.string ⟨nm.toArray⟩,.int .i64 fr,.int .i64 til,.int .i64 mo,.int .i64 d1,.int .i64 d2,.int .i64 d3,.int .i64 h1,.int .i64 h2,.int .i64 sv,.string ⟨lt.toArray⟩] 84)):=(Below.refl _ _).alloc (Nat.le_refl _) _;have HX1:=Lib.hid (show RX B g (w1.alloc (.cells #[.string ⟨nm.toArray⟩,.int .i64 fr,.int .i64 til,.int .i64 mo,.int .i64 d1,.int .i64 d2,.int .i64 d3,.int .i64 h1,.int .i64 h2,.int .i64 sv,.string ⟨lt.toArray⟩] 84)).heap.size 80 w #[v1,v2,v3,v4,u1,u2,u3,u4,.bool st.op] st cur el ⟨v1,v2,v3,v4,u1,u2,u3,u4⟩ w1.heap.size 84 #[.string ⟨nm.toArray⟩,.int .i64 fr,.int .i64 til,.int .i64 mo,.int .i64 d1,.int .i64 d2,.int .i64 d3,.int .i64 h1,.int .i64 h2,.int .i64 sv,.string ⟨lt.toArray⟩] (w1.alloc (.cells #[.string ⟨nm.toArray⟩,.int .i64 fr,.int .i64 til,.int .i64 mo,.int .i64 d1,.int .i64 d2,.int .i64 d3,.int .i64 h1,.int .i64 h2,.int .i64 sv,.string ⟨lt.toArray⟩] 84)) from ⟨HS1.out.2.1.below ha,HS1.out.1.below ha HS1.out.1.lt,fun _=>Blk.new' _ _ _ rfl,HS1.out.2.2.2.trans (ha.mono HS1.out.2.2.1),Nat.le_refl _,Nat.le_trans HS1.out.2.2.1 ha.size⟩);have HGX:=Lib.hid (show lowV w1.heap.size v1 from lowV_of (HS1.out.2.1.rows.own _ (List.mem_of_getElem? (i:=0) rfl)));clear ha HS1;generalize w1.alloc (.cells #[.string ⟨nm.toArray⟩,.int .i64 fr,.int .i64 til,.int .i64 mo,.int .i64 d1,.int .i64 d2,.int .i64 d3,.int .i64 h1,.int .i64 h2,.int .i64 sv,.string ⟨lt.toArray⟩] 84)=w2 at *;generalize w1.heap.size=gx at *;obtain ⟨L,hL⟩:∃L,w2.heap.size=L:=⟨_,rfl⟩;rw [hL] at HX1;have HLW:=Lib.hid (show LowRows L (rdRows st cur el ⟨v1,v2,v3,v4,u1,u2,u3,u4⟩) from by rw [←hL];exact HX1.out.rr.rows.low);have HL1:=Lib.hid (show lowV L v1 from HLW.out _ (List.mem_of_getElem? (i:=0) rfl));clear hL;refine wp_region_relsG 12 [[],[],[],[],[],[],[],[],[7],[],[],[]] [Form.val,Form.val,Form.val,Form.val,Form.val,Form.val,Form.val,Form.rel (One 84 L #[.string ⟨nm.toArray⟩,.int .i64 fr,.int .i64 til,.int .i64 mo,.int .i64 d1,.int .i64 d2,.int .i64 d3,.int .i64 h1,.int .i64 h2,.int .i64 sv,.string ⟨lt.toArray⟩]),Form.rel (GrownR 84 11 B L v1 (st.s.rules.length+1) (flatC RuleP.cells st.s.rules++(#[.string ⟨nm.toArray⟩,.int .i64 fr,.int .i64 til,.int .i64 mo,.int .i64 d1,.int .i64 d2,.int .i64 d3,.int .i64 h1,.int .i64 h2,.int .i64 sv,.string ⟨lt.toArray⟩]).toList)),Form.val,Form.val,Form.val] (fun W=>RX B g L 80 w #[v1,v2,v3,v4,u1,u2,u3,u4,.bool st.op] st cur el ⟨v1,v2,v3,v4,u1,u2,u3,u4⟩ gx 84 #[.string ⟨nm.toArray⟩,.int .i64 fr,.int .i64 til,.int .i64 mo,.int .i64 d1,.int .i64 d2,.int .i64 d3,.int .i64 h1,.int .i64 h2,.int .i64 sv,.string ⟨lt.toArray⟩] W) (GOwn 84 11 B st.s.rules.length (flatC RuleP.cells st.s.rules) v1) 8 (by kernel_rfl) (by kernel_rfl) rfl rfl (HX1.out.below (Below.refl _ _).drew) GOwn.of_below (fun W W2 h=>h.1.size) (fun W W2 h hg=>h.kept HRT.out (i:=0) rfl (.inr HGX.out) hg) ⟨(one_other HL1.out),GrownR.last,trivial⟩ ?_
  repeat (first|apply exSpec_rel|apply exSpec_new|apply exSpec_val)
  apply relWalkR_ex rfl rfl ?oq0 (fun K hK=>?nq0)
  case oq0 =>
   intro W hC hF;go_simp
   all_goals first|exact ⟨Below.refl _ _,rfl⟩|exact Below.refl _ _
  case' nq0 =>
   go_simp;refine hK _ ?_;clear hK K
  apply relWalkR_ex rfl rfl ?oq1 (fun K hK=>?nq1)
  case oq1 =>
   intro W hC hF;go_simp
   all_goals first|exact ⟨Below.refl _ _,rfl⟩|exact Below.refl _ _
  case' nq1 =>
   go_simp;refine hK _ ?_;clear hK K
  apply relWalkR_ex rfl rfl ?oq2 (fun K hK=>?nq2)
  case oq2 =>
   intro W hC hF;go_simp
   all_goals first|exact ⟨Below.refl _ _,rfl⟩|exact Below.refl _ _
  case' nq2 =>
   go_simp;refine hK _ ?_;clear hK K
  apply relWalkR_ex rfl rfl ?oq3 (fun K hK=>?nq3)
  case oq3 =>
   intro W hC hF;go_simp
   all_goals first|exact ⟨Below.refl _ _,rfl⟩|exact Below.refl _ _
  case' nq3 =>
   go_simp;refine hK _ ?_;clear hK K
  apply relWalkR_ex rfl rfl ?oq4 (fun K hK=>?nq4)
  case oq4 =>
   intro W hC hF;go_simp
   all_goals first|exact ⟨Below.refl _ _,rfl⟩|exact Below.refl _ _
  case' nq4 =>
   go_simp;refine hK _ ?_;clear hK K
  apply relWalkR_ex rfl rfl ?oq5 (fun K hK=>?nq5)
  case oq5 =>
   intro W hC hF;have z0:=hC.out.cell_ (i:=0) rfl;go_simp
   all_goals first|exact ⟨Below.refl _ _,rfl⟩|exact Below.refl _ _
  case' nq5 =>
   go_simp;refine hK _ ?_;clear hK K
  apply relWalkR_ex rfl rfl ?oq6 (fun K hK=>?nq6)
  case oq6 =>
   intro W hC hF;exact relAt_load 84 (.tmp 7) rfl gx rfl 84 _ _ (hC.box (by decide)) Tryz.underlying84 rfl (by kernel_rfl)
  case' nq6 =>
   go_simp;refine hK _ ?_;clear hK K
  apply relWalkR_rel rfl rfl ?oq7 (fun u7 K hK=>?nq7)
  case oq7 =>
   intro W hC hF;exact relAt_one rfl ix zx Tryz.underlying23 hix hzx #[.string ⟨nm.toArray⟩,.int .i64 fr,.int .i64 til,.int .i64 mo,.int .i64 d1,.int .i64 d2,.int .i64 d3,.int .i64 h1,.int .i64 h2,.int .i64 sv,.string ⟨lt.toArray⟩] rfl hszx hzcx (by simp) (by simp) L hC.lsz
  case' nq7 =>
   go_simp;refine hK _ ?_;clear hK K
  apply relWalkR_wr rfl rfl ?oq8 (fun u8 K hK=>?nq8)
  case oq8 =>
   intro W hC hF;obtain ⟨⟨g1,rfl,hb1,hg1⟩,-⟩:=hF;exact relAtR_push2 rfl B L ix zx 11 Tryz.underlying23 hix hzx hszx hbyx hzcx (by decide) v1 st.s.rules.length (flatC RuleP.cells st.s.rules) rfl (hC.rr.rows.own _ (List.mem_of_getElem? (i:=0) rfl)) g1 1 #[.string ⟨nm.toArray⟩,.int .i64 fr,.int .i64 til,.int .i64 mo,.int .i64 d1,.int .i64 d2,.int .i64 d3,.int .i64 h1,.int .i64 h2,.int .i64 sv,.string ⟨lt.toArray⟩] rfl hb1 rfl (by simp [Value.oneCell']) HN1.out (Nat.le_trans hC.bl hC.lsz) hC.lsz (fun u W2 h=>h)
  case' nq8 =>
   go_simp;refine hK _ ?_;clear hK K
  apply relWalkR_ex rfl rfl ?oq9 (fun K hK=>?nq9)
  case oq9 =>
   intro W hC hF;go_simp
   all_goals first|exact ⟨Below.refl _ _,rfl⟩|exact Below.refl _ _
  case' nq9 =>
   go_simp;refine hK _ ?_;clear hK K
  apply relWalkR_ex rfl rfl ?oq10 (fun K hK=>?nq10)
  case oq10 =>
   intro W hC hF;go_simp
   all_goals first|exact ⟨Below.refl _ _,rfl⟩|exact Below.refl _ _
  case' nq10 =>
   go_simp;refine hK _ ?_;clear hK K
  apply relWalkR_ex rfl rfl ?oq11 (fun K hK=>?nq11)
  case oq11 =>
   intro W hC hF;go_simp
   all_goals first|exact ⟨Below.refl _ _,rfl⟩|exact Below.refl _ _
  case' nq11 =>
   go_simp;refine hK _ ?_;clear hK K
  apply relWalkR_end
  intro W hC hF hU;have h8:=hF.1;have hrr1:=hC.rr.rule1 HLW.out (x:=⟨nm,fr,til,mo,⟨d1,d2,d3⟩,⟨h1,h2⟩,sv,lt⟩) (u:=u8) (by unfold rRule Row.own;dsimp only;rw [List.length_append,flatC_snoc];exact h8.1) h8.2;obtain ⟨p8,d8,rfl⟩:=own_form h8.1;have HX2:=Lib.hid (hC.put (j:=0) (u:=.slice p8 (st.s.rules.length+1) d8) (RC':=#[.slice p8 (st.s.rules.length+1) d8,v2,v3,v4,u1,u2,u3,u4,.bool st.op]) hrr1 HRT.out (by decide) HBG.out rfl).now.bare;have z0:=hC.out.cell_ (i:=0) rfl;have f0:=hC.out.frozen 0;clear hC hF hU h8 hrr1 HX1 HGX HLW HL1
  go_upto_region 5 with fail
  clear z0 f0;generalize W.setCell ⟨g,0,none⟩ _=wa at *;have HL9:=Lib.hid (HX2.out.rr.rows.low);have z0:=HX2.out.out.cell_ (i:=4) rfl;go_wp2_with (first|(at_builtin;refine wpList_append_push rfl (.tmp 34) (.tmp 36) 29 3 rfl B wa.heap.size ii zi 1 Tryz.underlying29 hii hzi hszi hbyi hzci (by decide) u1 st.l.rules.length (flatC encI st.l.rules) rfl ((HX2.out.below ((Below.refl _ _).alloc (Nat.le_refl _) (.cells #[.int .i64 n] 3))).rr.rows.own _ (List.mem_of_getElem? (i:=4) rfl)) wa.heap.size 1 #[.int .i64 n] rfl (Blk.new' _ _ _ rfl) rfl (by simp [Value.oneCell']) HN2.out (by have h1:=HX2.out.bl;have h2:=HX2.out.lsz;simp;omega) (by simp) ?_)|fail)
  intro u9 w9 hgr hgo;clear z0;have hX:=(HX2.out.below ((Below.refl _ _).alloc (Nat.le_refl _) (.cells #[.int .i64 n] 3))).kept HRT.out (i:=4) rfl (.inl (by show 0≠3;decide)) hgo;have hrr:=hX.rr.ruleN (L:=wa.heap.size) HL9.out (n:=n) (u:=u9) (by unfold rInt Row.own;dsimp only;rw [List.length_append,flatC_snoc];exact hgr.1) hgr.2;obtain ⟨p9,d9,rfl⟩:=own_form hgr.1;have z1:=hX.out.cell_ (i:=4) rfl;have f1:=hX.out.frozen 4;have HX3:=Lib.hid (hX.put (j:=4) (u:=.slice p9 (st.l.rules.length+1) d9) (RC':=#[.slice p8 (st.s.rules.length+1) d8,v2,v3,v4,.slice p9 (st.l.rules.length+1) d9,u2,u3,u4,.bool st.op]) hrr HRT.out (by decide) HBG.out rfl).now;clear hX hrr hgr hgo HL9 HX2
  go_upto_region 6 with fail
  clear z1 f1;generalize w9.setCell ⟨g,4,none⟩ _=wb at *;have HE:=Lib.hid (show RdH B g (ruleS st n ls).1 wb∧Below B w wb from ⟨⟨HBG.out,cur,el,⟨.slice p8 (st.s.rules.length+1) d8,v2,v3,v4,.slice p9 (st.l.rules.length+1) d9,u2,u3,u4⟩,by rw [HX.out];exact HX3.out.out,by rw [HX.out];exact HX3.out.rr⟩,HX3.out.bel⟩);have z0:=HX3.out.out.cell_ (i:=0) rfl;clear HX3
  by_cases hov:2000<st.s.rules.length+1
  ·have hd:decide ((2000:Int)<(st.s.rules.length:Int)+1)=true:=by simp;omega
   have HF:=Lib.hid (show (ruleS st n ls).2=7 from by rw [HX.out];exact if_pos hov);clear hov;go_wp2_with fail
   go_ret
   exact ⟨by rw [HF.out];rfl,HE.out.1,HE.out.2⟩
  ·have hd:decide ((2000:Int)<(st.s.rules.length:Int)+1)=false:=by simp;omega
   have HF:=Lib.hid (show (ruleS st n ls).2=0 from by rw [HX.out];exact if_neg hov);clear hov;go_wp2_with fail
   go_ret
   exact ⟨by rw [HF.out];rfl,HE.out.1,HE.out.2⟩
 ·rw [if_pos he] at HX
  have hq:(en != 0)=true:=by simp [he]
  have hq2:(en==0)=false:=by simp [he]
  clear he
  go_enter Tryz.func60,Tryz.ntmps60;go_wp2_with fail
  refine HP.out.mono ?_;rintro e1 w1 ⟨rfl,hb⟩;have HS1:=Lib.hid (And.intro (HS.out.1.below hb HS.out.1.lt) (And.intro (HS.out.2.1.below hb) (And.intro (Nat.le_trans HS.out.2.2 hb.size) (hb.mono HS.out.2.2))));clear hb HS HP;have ha:Below w1.heap.size w1 (w1.alloc (.cells #[.string ⟨nm.toArray⟩,.int .i64 fr,.int .i64 til,.int .i64 mo,.int .i64 d1,.int .i64 d2,.int .i64 d3,.int .i64 h1,.int .i64 h2,.int .i64 sv,.string ⟨lt.toArray⟩] 84)):=(Below.refl _ _).alloc (Nat.le_refl _) _;have HS2:=Lib.hid (And.intro (show RdH B g st (w1.alloc (.cells #[.string ⟨nm.toArray⟩,.int .i64 fr,.int .i64 til,.int .i64 mo,.int .i64 d1,.int .i64 d2,.int .i64 d3,.int .i64 h1,.int .i64 h2,.int .i64 sv,.string ⟨lt.toArray⟩] 84)) from ⟨HBG.out,cur,el,⟨v1,v2,v3,v4,u1,u2,u3,u4⟩,HS1.out.1.below ha HS1.out.1.lt,HS1.out.2.1.below ha⟩) (HS1.out.2.2.2.trans (ha.mono HS1.out.2.2.1)));clear ha HS1;go_wp2_with fail
  go_ret
  exact ⟨by rw [HX.out];rfl,by rw [HX.out];exact HS2.out.1,HS2.out.2⟩
theorem r13link_any (B g:Nat) (st:RdP) (n:Int) (b o k c:Nat) (ls:List (List UInt8)) (w:World) (h:RdH B g st w) (hr:StrRow w b o ls) (hn:ls.length=k) (hl:∀l ∈ ls,l.length≤1048576) (hm:k≤1000000) (hsm:RdSm st) :
 Calls Tryz.prog 62 #[.pointer (some ⟨g,0,none⟩),.slice (some ⟨b,o,none⟩) k c,.int .i64 n] w fun e w'=>e=.returned (.int .i64 (linkS st n ls).2)∧RdH B g (linkS st n ls).1 w'∧Below B w w':=by
 obtain ⟨hBg,cur,el,⟨v1,v2,v3,v4,u1,u2,u3,u4⟩,hblk,hrr⟩:=h;obtain ⟨ix,zx,hix,hzx,hszx,hbyx,hzcx⟩:=info_st (P:=Tryz.prog) (e:=65) (k:=2) (by kernel_rfl);obtain ⟨ii,zi,hii,hzi,hszi,hbyi,hzci⟩:=info_st (P:=Tryz.prog) (e:=3) (k:=1) (by kernel_rfl);obtain ⟨⟨nm,lt⟩,en,hx⟩:∃x e,linkR ls=(x,e):=⟨_,_,rfl⟩;have HP:=Lib.hid (r12link_any (some ⟨b,o,none⟩) k c ls w ⟨fun _=>⟨b,o,rfl,hr⟩⟩ hn hl hm);rw [hx] at HP;simp only [LinkP.cells] at HP;have HX:=Lib.hid (show linkS st n ls=_ from by unfold linkS;rw [hx]);have HRT:=Lib.hid (show RTypes 80 from by decide);have HS:=Lib.hid (And.intro (hblk) (And.intro (hrr) (Nat.le_trans hBg (Nat.le_of_lt hblk.lt))));have HN1:=Lib.hid (show st.s.links.length≤1048576 from by have:=hsm.links.1;omega);have HN2:=Lib.hid (show st.l.links.length≤1048576 from by have:=hsm.links.2;omega);have HSM:=Lib.hid hsm.links.1;have HBG:=Lib.hid hBg;clear hx hr hn hl hm hsm hblk hrr hBg
 by_cases he:en=0
 ·subst he
  rw [if_neg (by simp)] at HX
  go_enter Tryz.func62,Tryz.ntmps62;go_wp2_with fail
  refine HP.out.mono ?_;rintro e1 w1 ⟨rfl,hb⟩;have HS1:=Lib.hid (And.intro (HS.out.1.below hb HS.out.1.lt) (And.intro (HS.out.2.1.below hb) (And.intro (Nat.le_trans HS.out.2.2 hb.size) (hb.mono HS.out.2.2))));clear hb HS HP
  go_upto_region 4 with fail
  have ha:Below w1.heap.size w1 (w1.alloc (.cells #[.string ⟨nm.toArray⟩,.string ⟨lt.toArray⟩] 65)):=(Below.refl _ _).alloc (Nat.le_refl _) _;have HX1:=Lib.hid (show RX B g (w1.alloc (.cells #[.string ⟨nm.toArray⟩,.string ⟨lt.toArray⟩] 65)).heap.size 80 w #[v1,v2,v3,v4,u1,u2,u3,u4,.bool st.op] st cur el ⟨v1,v2,v3,v4,u1,u2,u3,u4⟩ w1.heap.size 65 #[.string ⟨nm.toArray⟩,.string ⟨lt.toArray⟩] (w1.alloc (.cells #[.string ⟨nm.toArray⟩,.string ⟨lt.toArray⟩] 65)) from ⟨HS1.out.2.1.below ha,HS1.out.1.below ha HS1.out.1.lt,fun _=>Blk.new' _ _ _ rfl,HS1.out.2.2.2.trans (ha.mono HS1.out.2.2.1),Nat.le_refl _,Nat.le_trans HS1.out.2.2.1 ha.size⟩);have HGX:=Lib.hid (show lowV w1.heap.size v3 from lowV_of (HS1.out.2.1.rows.own _ (List.mem_of_getElem? (i:=2) rfl)));clear ha HS1;generalize w1.alloc (.cells #[.string ⟨nm.toArray⟩,.string ⟨lt.toArray⟩] 65)=w2 at *;generalize w1.heap.size=gx at *;obtain ⟨L,hL⟩:∃L,w2.heap.size=L:=⟨_,rfl⟩;rw [hL] at HX1;have HLW:=Lib.hid (show LowRows L (rdRows st cur el ⟨v1,v2,v3,v4,u1,u2,u3,u4⟩) from by rw [←hL];exact HX1.out.rr.rows.low);have HL1:=Lib.hid (show lowV L v3 from HLW.out _ (List.mem_of_getElem? (i:=2) rfl));clear hL;refine wp_region_relsG 12 [[],[],[],[],[],[],[],[],[7],[],[],[]] [Form.val,Form.val,Form.val,Form.val,Form.val,Form.val,Form.val,Form.rel (One 65 L #[.string ⟨nm.toArray⟩,.string ⟨lt.toArray⟩]),Form.rel (GrownR 65 2 B L v3 (st.s.links.length+1) (flatC LinkP.cells st.s.links++(#[.string ⟨nm.toArray⟩,.string ⟨lt.toArray⟩]).toList)),Form.val,Form.val,Form.val] (fun W=>RX B g L 80 w #[v1,v2,v3,v4,u1,u2,u3,u4,.bool st.op] st cur el ⟨v1,v2,v3,v4,u1,u2,u3,u4⟩ gx 65 #[.string ⟨nm.toArray⟩,.string ⟨lt.toArray⟩] W) (GOwn 65 2 B st.s.links.length (flatC LinkP.cells st.s.links) v3) 8 (by kernel_rfl) (by kernel_rfl) rfl rfl (HX1.out.below (Below.refl _ _).drew) GOwn.of_below (fun W W2 h=>h.1.size) (fun W W2 h hg=>h.kept HRT.out (i:=2) rfl (.inr HGX.out) hg) ⟨(one_other HL1.out),GrownR.last,trivial⟩ ?_
  repeat (first|apply exSpec_rel|apply exSpec_new|apply exSpec_val)
  apply relWalkR_ex rfl rfl ?oq0 (fun K hK=>?nq0)
  case oq0 =>
   intro W hC hF;go_simp
   all_goals first|exact ⟨Below.refl _ _,rfl⟩|exact Below.refl _ _
  case' nq0 =>
   go_simp;refine hK _ ?_;clear hK K
  apply relWalkR_ex rfl rfl ?oq1 (fun K hK=>?nq1)
  case oq1 =>
   intro W hC hF;go_simp
   all_goals first|exact ⟨Below.refl _ _,rfl⟩|exact Below.refl _ _
  case' nq1 =>
   go_simp;refine hK _ ?_;clear hK K
  apply relWalkR_ex rfl rfl ?oq2 (fun K hK=>?nq2)
  case oq2 =>
   intro W hC hF;go_simp
   all_goals first|exact ⟨Below.refl _ _,rfl⟩|exact Below.refl _ _
  case' nq2 =>
   go_simp;refine hK _ ?_;clear hK K
  apply relWalkR_ex rfl rfl ?oq3 (fun K hK=>?nq3)
  case oq3 =>
   intro W hC hF;go_simp
   all_goals first|exact ⟨Below.refl _ _,rfl⟩|exact Below.refl _ _
  case' nq3 =>
   go_simp;refine hK _ ?_;clear hK K
  apply relWalkR_ex rfl rfl ?oq4 (fun K hK=>?nq4)
  case oq4 =>
   intro W hC hF;go_simp
   all_goals first|exact ⟨Below.refl _ _,rfl⟩|exact Below.refl _ _
  case' nq4 =>
   go_simp;refine hK _ ?_;clear hK K
  apply relWalkR_ex rfl rfl ?oq5 (fun K hK=>?nq5)
  case oq5 =>
   intro W hC hF;have z0:=hC.out.cell_ (i:=2) rfl;go_simp
   all_goals first|exact ⟨Below.refl _ _,rfl⟩|exact Below.refl _ _
  case' nq5 =>
   go_simp;refine hK _ ?_;clear hK K
  apply relWalkR_ex rfl rfl ?oq6 (fun K hK=>?nq6)
  case oq6 =>
   intro W hC hF;exact relAt_load 65 (.tmp 7) rfl gx rfl 65 _ _ (hC.box (by decide)) Tryz.underlying65 rfl (by kernel_rfl)
  case' nq6 =>
   go_simp;refine hK _ ?_;clear hK K
  apply relWalkR_rel rfl rfl ?oq7 (fun u7 K hK=>?nq7)
  case oq7 =>
   intro W hC hF;exact relAt_one rfl ix zx Tryz.underlying25 hix hzx #[.string ⟨nm.toArray⟩,.string ⟨lt.toArray⟩] rfl hszx hzcx (by simp) (by simp) L hC.lsz
  case' nq7 =>
   go_simp;refine hK _ ?_;clear hK K
  apply relWalkR_wr rfl rfl ?oq8 (fun u8 K hK=>?nq8)
  case oq8 =>
   intro W hC hF;obtain ⟨⟨g1,rfl,hb1,hg1⟩,-⟩:=hF;exact relAtR_push2 rfl B L ix zx 2 Tryz.underlying25 hix hzx hszx hbyx hzcx (by decide) v3 st.s.links.length (flatC LinkP.cells st.s.links) rfl (hC.rr.rows.own _ (List.mem_of_getElem? (i:=2) rfl)) g1 1 #[.string ⟨nm.toArray⟩,.string ⟨lt.toArray⟩] rfl hb1 rfl (by simp [Value.oneCell']) HN1.out (Nat.le_trans hC.bl hC.lsz) hC.lsz (fun u W2 h=>h)
  case' nq8 =>
   go_simp;refine hK _ ?_;clear hK K
  apply relWalkR_ex rfl rfl ?oq9 (fun K hK=>?nq9)
  case oq9 =>
   intro W hC hF;go_simp
   all_goals first|exact ⟨Below.refl _ _,rfl⟩|exact Below.refl _ _
  case' nq9 =>
   go_simp;refine hK _ ?_;clear hK K
  apply relWalkR_ex rfl rfl ?oq10 (fun K hK=>?nq10)
  case oq10 =>
   intro W hC hF;go_simp
   all_goals first|exact ⟨Below.refl _ _,rfl⟩|exact Below.refl _ _
  case' nq10 =>
   go_simp;refine hK _ ?_;clear hK K
  apply relWalkR_ex rfl rfl ?oq11 (fun K hK=>?nq11)
  case oq11 =>
   intro W hC hF;go_simp
   all_goals first|exact ⟨Below.refl _ _,rfl⟩|exact Below.refl _ _
  case' nq11 =>
   go_simp;refine hK _ ?_;clear hK K
  apply relWalkR_end
  intro W hC hF hU;have h8:=hF.1;have hrr1:=hC.rr.link1 HLW.out (x:=⟨nm,lt⟩) (u:=u8) (by unfold rLink Row.own;dsimp only;rw [List.length_append,flatC_snoc];exact h8.1) h8.2;obtain ⟨p8,d8,rfl⟩:=own_form h8.1;have HX2:=Lib.hid (hC.put (j:=2) (u:=.slice p8 (st.s.links.length+1) d8) (RC':=#[v1,v2,.slice p8 (st.s.links.length+1) d8,v4,u1,u2,u3,u4,.bool st.op]) hrr1 HRT.out (by decide) HBG.out rfl).now.bare;have z0:=hC.out.cell_ (i:=2) rfl;have f0:=hC.out.frozen 2;clear hC hF hU h8 hrr1 HX1 HGX HLW HL1
  go_upto_region 5 with fail
  clear z0 f0;generalize W.setCell ⟨g,2,none⟩ _=wa at *;have HL9:=Lib.hid (HX2.out.rr.rows.low);have z0:=HX2.out.out.cell_ (i:=6) rfl;go_wp2_with (first|(at_builtin;refine wpList_append_push rfl (.tmp 34) (.tmp 36) 29 3 rfl B wa.heap.size ii zi 1 Tryz.underlying29 hii hzi hszi hbyi hzci (by decide) u3 st.l.links.length (flatC encI st.l.links) rfl ((HX2.out.below ((Below.refl _ _).alloc (Nat.le_refl _) (.cells #[.int .i64 n] 3))).rr.rows.own _ (List.mem_of_getElem? (i:=6) rfl)) wa.heap.size 1 #[.int .i64 n] rfl (Blk.new' _ _ _ rfl) rfl (by simp [Value.oneCell']) HN2.out (by have h1:=HX2.out.bl;have h2:=HX2.out.lsz;simp;omega) (by simp) ?_)|fail)
  intro u9 w9 hgr hgo;clear z0;have hX:=(HX2.out.below ((Below.refl _ _).alloc (Nat.le_refl _) (.cells #[.int .i64 n] 3))).kept HRT.out (i:=6) rfl (.inl (by show 0≠3;decide)) hgo;have hrr:=hX.rr.linkN (L:=wa.heap.size) HL9.out (n:=n) (u:=u9) (by unfold rInt Row.own;dsimp only;rw [List.length_append,flatC_snoc];exact hgr.1) hgr.2;obtain ⟨p9,d9,rfl⟩:=own_form hgr.1;have z1:=hX.out.cell_ (i:=6) rfl;have f1:=hX.out.frozen 6;have HX3:=Lib.hid (hX.put (j:=6) (u:=.slice p9 (st.l.links.length+1) d9) (RC':=#[v1,v2,.slice p8 (st.s.links.length+1) d8,v4,u1,u2,.slice p9 (st.l.links.length+1) d9,u4,.bool st.op]) hrr HRT.out (by decide) HBG.out rfl).now;clear hX hrr hgr hgo HL9 HX2
  go_upto_region 6 with fail
  clear z1 f1;generalize w9.setCell ⟨g,6,none⟩ _=wb at *;have HE:=Lib.hid (show RdH B g (linkS st n ls).1 wb∧Below B w wb from ⟨⟨HBG.out,cur,el,⟨v1,v2,.slice p8 (st.s.links.length+1) d8,v4,u1,u2,.slice p9 (st.l.links.length+1) d9,u4⟩,by rw [HX.out];exact HX3.out.out,by rw [HX.out];exact HX3.out.rr⟩,HX3.out.bel⟩);have z0:=HX3.out.out.cell_ (i:=2) rfl;clear HX3
  by_cases hov:1000<st.s.links.length+1
  ·have hd:decide ((1000:Int)<(st.s.links.length:Int)+1)=true:=by simp;omega
   have HF:=Lib.hid (show (linkS st n ls).2=7 from by rw [HX.out];exact if_pos hov);clear hov;go_wp2_with fail
   go_ret
   exact ⟨by rw [HF.out];rfl,HE.out.1,HE.out.2⟩
  ·have hd:decide ((1000:Int)<(st.s.links.length:Int)+1)=false:=by simp;omega
   have HF:=Lib.hid (show (linkS st n ls).2=0 from by rw [HX.out];exact if_neg hov);clear hov;go_wp2_with fail
   go_ret
   exact ⟨by rw [HF.out];rfl,HE.out.1,HE.out.2⟩
 ·rw [if_pos he] at HX
  have hq:(en != 0)=true:=by simp [he]
  have hq2:(en==0)=false:=by simp [he]
  clear he
  go_enter Tryz.func62,Tryz.ntmps62;go_wp2_with fail
  refine HP.out.mono ?_;rintro e1 w1 ⟨rfl,hb⟩;have HS1:=Lib.hid (And.intro (HS.out.1.below hb HS.out.1.lt) (And.intro (HS.out.2.1.below hb) (And.intro (Nat.le_trans HS.out.2.2 hb.size) (hb.mono HS.out.2.2))));clear hb HS HP;have ha:Below w1.heap.size w1 (w1.alloc (.cells #[.string ⟨nm.toArray⟩,.string ⟨lt.toArray⟩] 65)):=(Below.refl _ _).alloc (Nat.le_refl _) _;have HS2:=Lib.hid (And.intro (show RdH B g st (w1.alloc (.cells #[.string ⟨nm.toArray⟩,.string ⟨lt.toArray⟩] 65)) from ⟨HBG.out,cur,el,⟨v1,v2,v3,v4,u1,u2,u3,u4⟩,HS1.out.1.below ha HS1.out.1.lt,HS1.out.2.1.below ha⟩) (HS1.out.2.2.2.trans (ha.mono HS1.out.2.2.1)));clear ha HS1;go_wp2_with fail
  go_ret
  exact ⟨by rw [HX.out];rfl,by rw [HX.out];exact HS2.out.1,HS2.out.2⟩
theorem r13shift_any (B g:Nat) (st:RdP) (n:Int) (b o k c:Nat) (ls:List (List UInt8)) (w:World) (h:RdH B g st w) (hr:StrRow w b o ls) (hn:ls.length=k) (hl:∀l ∈ ls,l.length≤1048576) (hm:k≤1000000) (hsm:RdSm st) :
 Calls Tryz.prog 63 #[.pointer (some ⟨g,0,none⟩),.slice (some ⟨b,o,none⟩) k c,.int .i64 n] w fun e w'=>e=.returned (.int .i64 (shiftS st n ls).2)∧RdH B g (shiftS st n ls).1 w'∧Below B w w':=by
 obtain ⟨hBg,cur,el,⟨v1,v2,v3,v4,u1,u2,u3,u4⟩,hblk,hrr⟩:=h;obtain ⟨ix,zx,hix,hzx,hszx,hbyx,hzcx⟩:=info_st (P:=Tryz.prog) (e:=9) (k:=1) (by kernel_rfl);obtain ⟨ii,zi,hii,hzi,hszi,hbyi,hzci⟩:=info_st (P:=Tryz.prog) (e:=3) (k:=1) (by kernel_rfl);obtain ⟨x,en,hx⟩:∃x e,shiftR ls=(x,e):=⟨_,_,rfl⟩;have HP:=Lib.hid (r12shiftp_any (some ⟨b,o,none⟩) k c ls w ⟨fun _=>⟨b,o,rfl,hr⟩⟩ hn hl hm);rw [hx] at HP;have HX:=Lib.hid (show shiftS st n ls=_ from by unfold shiftS;rw [hx]);have HRT:=Lib.hid (show RTypes 80 from by decide);have HS:=Lib.hid (And.intro (hblk) (And.intro (hrr) (Nat.le_trans hBg (Nat.le_of_lt hblk.lt))));have HN1:=Lib.hid (show st.s.shifts.length≤1048576 from by have:=hsm.shifts.1;omega);have HN2:=Lib.hid (show st.l.shifts.length≤1048576 from by have:=hsm.shifts.2;omega);have HSM:=Lib.hid hsm.shifts.1;have HBG:=Lib.hid hBg;clear hx hr hn hl hm hsm hblk hrr hBg
 by_cases he:en=0
 ·subst he
  rw [if_neg (by simp)] at HX
  go_enter Tryz.func63,Tryz.ntmps63;go_wp2_with fail
  refine HP.out.mono ?_;rintro e1 w1 ⟨rfl,hb⟩;have HS1:=Lib.hid (And.intro (HS.out.1.below hb HS.out.1.lt) (And.intro (HS.out.2.1.below hb) (And.intro (Nat.le_trans HS.out.2.2 hb.size) (hb.mono HS.out.2.2))));clear hb HS HP
  go_upto_region 4 with fail
  have HX1:=Lib.hid (show RX B g w1.heap.size 80 w #[v1,v2,v3,v4,u1,u2,u3,u4,.bool st.op] st cur el ⟨v1,v2,v3,v4,u1,u2,u3,u4⟩ 0 0 #[] w1 from ⟨HS1.out.2.1,HS1.out.1,fun h0=>absurd rfl h0,HS1.out.2.2.2,Nat.le_refl _,HS1.out.2.2.1⟩);clear HS1;have HL8:=Lib.hid (HX1.out.rr.rows.low);have z0:=HX1.out.out.cell_ (i:=3) rfl;go_wp2_with (first|(at_builtin;refine wpList_append_push rfl (.tmp 22) (.tmp 24) 26 9 rfl B w1.heap.size ix zx 1 Tryz.underlying26 hix hzx hszx hbyx hzcx (by decide) v4 st.s.shifts.length (flatC encS st.s.shifts) rfl ((HX1.out.below ((Below.refl _ _).alloc (Nat.le_refl _) (.cells #[.string ⟨x.toArray⟩] 9))).rr.rows.own _ (List.mem_of_getElem? (i:=3) rfl)) w1.heap.size 1 #[.string ⟨x.toArray⟩] rfl (Blk.new' _ _ _ rfl) rfl (by simp [Value.oneCell']) HN1.out (by have h1:=HX1.out.bl;have h2:=HX1.out.lsz;simp;omega) (by simp) ?_)|fail)
  intro u8 w8 hgr hgo;clear z0;have hX:=(HX1.out.below ((Below.refl _ _).alloc (Nat.le_refl _) (.cells #[.string ⟨x.toArray⟩] 9))).kept HRT.out (i:=3) rfl (.inl (by show 0≠9;decide)) hgo;have hrr:=hX.rr.shift1 (L:=w1.heap.size) HL8.out (x:=x) (u:=u8) (by unfold rStr Row.own;dsimp only;rw [List.length_append,flatC_snoc];exact hgr.1) hgr.2;obtain ⟨p8,d8,rfl⟩:=own_form hgr.1;have z1:=hX.out.cell_ (i:=3) rfl;have f1:=hX.out.frozen 3;have HX2:=Lib.hid (hX.put (j:=3) (u:=.slice p8 (st.s.shifts.length+1) d8) (RC':=#[v1,v2,v3,.slice p8 (st.s.shifts.length+1) d8,u1,u2,u3,u4,.bool st.op]) hrr HRT.out (by decide) HBG.out rfl).now;clear hX hrr hgr hgo HL8 HX1
  go_upto_region 5 with fail
  clear z1 f1;generalize w8.setCell ⟨g,3,none⟩ _=wa at *;have HL9:=Lib.hid (HX2.out.rr.rows.low);have z0:=HX2.out.out.cell_ (i:=7) rfl;go_wp2_with (first|(at_builtin;refine wpList_append_push rfl (.tmp 34) (.tmp 36) 29 3 rfl B wa.heap.size ii zi 1 Tryz.underlying29 hii hzi hszi hbyi hzci (by decide) u4 st.l.shifts.length (flatC encI st.l.shifts) rfl ((HX2.out.below ((Below.refl _ _).alloc (Nat.le_refl _) (.cells #[.int .i64 n] 3))).rr.rows.own _ (List.mem_of_getElem? (i:=7) rfl)) wa.heap.size 1 #[.int .i64 n] rfl (Blk.new' _ _ _ rfl) rfl (by simp [Value.oneCell']) HN2.out (by have h1:=HX2.out.bl;have h2:=HX2.out.lsz;simp;omega) (by simp) ?_)|fail)
  intro u9 w9 hgr hgo;clear z0;have hX:=(HX2.out.below ((Below.refl _ _).alloc (Nat.le_refl _) (.cells #[.int .i64 n] 3))).kept HRT.out (i:=7) rfl (.inl (by show 0≠3;decide)) hgo;have hrr:=hX.rr.shiftN (L:=wa.heap.size) HL9.out (n:=n) (u:=u9) (by unfold rInt Row.own;dsimp only;rw [List.length_append,flatC_snoc];exact hgr.1) hgr.2;obtain ⟨p9,d9,rfl⟩:=own_form hgr.1;have z1:=hX.out.cell_ (i:=7) rfl;have f1:=hX.out.frozen 7;have HX3:=Lib.hid (hX.put (j:=7) (u:=.slice p9 (st.l.shifts.length+1) d9) (RC':=#[v1,v2,v3,.slice p8 (st.s.shifts.length+1) d8,u1,u2,u3,.slice p9 (st.l.shifts.length+1) d9,.bool st.op]) hrr HRT.out (by decide) HBG.out rfl).now;clear hX hrr hgr hgo HL9 HX2
  go_upto_region 6 with fail
  clear z1 f1;generalize w9.setCell ⟨g,7,none⟩ _=wb at *;have HE:=Lib.hid (show RdH B g (shiftS st n ls).1 wb∧Below B w wb from ⟨⟨HBG.out,cur,el,⟨v1,v2,v3,.slice p8 (st.s.shifts.length+1) d8,u1,u2,u3,.slice p9 (st.l.shifts.length+1) d9⟩,by rw [HX.out];exact HX3.out.out,by rw [HX.out];exact HX3.out.rr⟩,HX3.out.bel⟩);have z0:=HX3.out.out.cell_ (i:=3) rfl;clear HX3
  by_cases hov:2000<st.s.shifts.length+1
  ·have hd:decide ((2000:Int)<(st.s.shifts.length:Int)+1)=true:=by simp;omega
   have HF:=Lib.hid (show (shiftS st n ls).2=7 from by rw [HX.out];exact if_pos hov);clear hov;go_wp2_with fail
   go_ret
   exact ⟨by rw [HF.out];rfl,HE.out.1,HE.out.2⟩
  ·have hd:decide ((2000:Int)<(st.s.shifts.length:Int)+1)=false:=by simp;omega
   have HF:=Lib.hid (show (shiftS st n ls).2=0 from by rw [HX.out];exact if_neg hov);clear hov;go_wp2_with fail
   go_ret
   exact ⟨by rw [HF.out];rfl,HE.out.1,HE.out.2⟩
 ·rw [if_pos he] at HX
  have hq:(en != 0)=true:=by simp [he]
  have hq2:(en==0)=false:=by simp [he]
  clear he
  go_enter Tryz.func63,Tryz.ntmps63;go_wp2_with fail
  refine HP.out.mono ?_;rintro e1 w1 ⟨rfl,hb⟩;have HS1:=Lib.hid (And.intro (HS.out.1.below hb HS.out.1.lt) (And.intro (HS.out.2.1.below hb) (And.intro (Nat.le_trans HS.out.2.2 hb.size) (hb.mono HS.out.2.2))));clear hb HS HP;have HS2:=Lib.hid (show RdH B g st w1∧Below B w w1 from ⟨⟨HBG.out,cur,el,⟨v1,v2,v3,v4,u1,u2,u3,u4⟩,HS1.out.1,HS1.out.2.1⟩,HS1.out.2.2.2⟩);clear HS1;go_wp2_with fail
  go_ret
  exact ⟨by rw [HX.out];rfl,by rw [HX.out];exact HS2.out.1,HS2.out.2⟩
end Go.Proofs.YtciclddfhohieaaGreatDoor
