/-
  The tree of layer 13: the source that it makes.
-/
import Derived.Test.YtboagmbmmoomiaaGreatDoorTreeAt
import Derived.Test.YtboagmbmmoomiaaGreatDoorSrcOwn
import Derived.Test.YtboagmbmmoomiaaGreatDoorSrcRight
import Derived.Deep.CutRange
import Derived.Deep.CutBlock
import Derived.Laws.BytesArg
set_option linter.unusedVariables false
set_option linter.unusedSimpArgs false
set_option maxRecDepth 100000
set_option maxHeartbeats 4000000
namespace Go.Proofs.YtboagmbmmoomiaaGreatDoor
open Go.Lib (hid)
open Go.RowKit Go.Shelf
attribute [local go_sem] relAtR relUponR
theorem relAt_mono {P:Program} {o:Oper} {a:Act} {w:World} {p q:Value→World→Prop} (h:relAt P o a w p) (hpq:∀u w',p u w'→q u w'):relAt P o a w q:=by
 unfold relAt at h ⊢;generalize (execOp a.eval o).run P w=r at *
 cases r with
 | ok n w' =>
  cases n<;>simp only [relUpon] at h ⊢
  case value u=>exact ⟨h.1,hpq _ _ h.2⟩
  case skip=>exact ⟨h.1,hpq _ _ h.2⟩
  case enter f args=>exact h.mono fun e w'' ⟨u,he,hb,hp⟩=>⟨u,he,hb,hpq _ _ hp⟩
 | halt x w'=>simp only [relUpon] at h
theorem TW.grown {n₀ gt bn ba k:Nat} {T:Array Value} {w W W':World} (h:TW n₀ gt bn ba T w k W) {o:Option Nat} (hg:W.grownBy W' o) (ho:∀a,o=some a→ba<a):TW n₀ gt bn ba T w k W':=by
 obtain ⟨h1,h2,h3⟩:=h.le;obtain ⟨j,hj,hk⟩:=h.cnt;have ne:∀g,g≤ba→some g≠o:=fun g hgl hx=>by have:=ho g hx.symm;omega
 exact ⟨(hg.block gt h.tree.lt (ne _ (by omega))).trans h.tree,⟨j,(hg.block bn hj.lt (ne _ (by omega))).trans hj,hk⟩,(hg.block ba h.fn.lt (ne _ (Nat.le_refl _))).trans h.fn,h.bel.grown hg (by have:=h.tree.lt;omega) (fun a ha=>by have:=ho a ha;omega),h.le⟩
structure MT (w:World) (T:Array Value) (gr bn ba gs k:Nat) (rs:List RuleP) (cur:List ZV) (ls:List LinkP) (ss:List (List UInt8)) (v1 zv v3 v4:Value) (W:World):Prop where
 tw:TW w.heap.size w.heap.size bn ba T w k W
 res:Blk W gr 30 #[.slice none 0 0,.slice none 0 0,.slice none 0 0,.slice none 0 0]
 sb:SB gs gs rs cur ls ss v1 zv v3 v4 W
 le:w.heap.size<gr∧gr<bn∧ba<gs
section
variable {w W W':World} {T:Array Value} {gr bn ba gs k k' c:Nat} {rs:List RuleP} {cur:List ZV} {ls:List LinkP} {ss:List (List UInt8)} {v1 zv v3 v4:Value}
theorem own_ne {e k B n q:Nat} {v:Value} {xs:List Value} (h:W.ownsRow B e k v n xs) (hq:q<B):v.ownBlock≠some q:=fun hx=>by have:=own_base h q hx;omega
theorem SB.at_ {B g:Nat} (h:SB B g rs cur ls ss v1 zv v3 v4 W) (ha:AtR c bn W W') (hb:bn<B) (hg:g≠bn):SB B g rs cur ls ss v1 zv v3 v4 W' :=
 ⟨ha.blk h.out hg,ha.own h.rule (own_ne h.rule hb),ha.own h.zone (own_ne h.zone hb),ha.own h.link (own_ne h.link hb),ha.own h.str (own_ne h.str hb),fun q hq=>ha.own (h.eras q hq) (own_ne (h.eras q hq) hb)⟩
theorem MT.bg (h:MT w T gr bn ba gs k rs cur ls ss v1 zv v3 v4 W):bn<gs:=by have:=h.le;have:=h.tw.le;omega
theorem MT.at_ (h:MT w T gr bn ba gs k rs cur ls ss v1 zv v3 v4 W) (ha:AtR c bn W W'):MT w T gr bn ba gs (k+c) rs cur ls ss v1 zv v3 v4 W' :=
 ⟨h.tw.at_ ha,ha.blk h.res (by have:=h.le;omega),h.sb.at_ ha h.bg (by have:=h.bg;omega),h.le⟩
theorem MT.mono (h:MT w T gr bn ba gs k rs cur ls ss v1 zv v3 v4 W) (hk:k≤k'):MT w T gr bn ba gs k' rs cur ls ss v1 zv v3 v4 W:=⟨h.tw.mono hk,h.res,h.sb,h.le⟩
theorem MT.below (h:MT w T gr bn ba gs k rs cur ls ss v1 zv v3 v4 W) (hb:Below W.heap.size W W'):MT w T gr bn ba gs k rs cur ls ss v1 zv v3 v4 W':=⟨h.tw.below hb,h.res.below hb h.res.lt,h.sb.below hb,h.le⟩
theorem MT.grule (h:MT w T gr bn ba gs k rs cur ls ss v1 zv v3 v4 W) (hg:GRule gs rs v1 W W'):MT w T gr bn ba gs k rs cur ls ss v1 zv v3 v4 W':=⟨h.tw.grown hg.1 (fun a ha=>by have:=own_base h.sb.rule a ha;have:=h.le;omega),blk_grown h.res hg.1 h.sb.rule (by decide),h.sb.grule hg,h.le⟩
theorem MT.glink (h:MT w T gr bn ba gs k rs cur ls ss v1 zv v3 v4 W) (hg:GLink gs ls v3 W W'):MT w T gr bn ba gs k rs cur ls ss v1 zv v3 v4 W':=⟨h.tw.grown hg.1 (fun a ha=>by have:=own_base h.sb.link a ha;have:=h.le;omega),blk_grown h.res hg.1 h.sb.link (by decide),h.sb.glink hg,h.le⟩
theorem MT.gstr (h:MT w T gr bn ba gs k rs cur ls ss v1 zv v3 v4 W) (hg:GStr gs ss v4 W W'):MT w T gr bn ba gs k rs cur ls ss v1 zv v3 v4 W':=⟨h.tw.grown hg.1 (fun a ha=>by have:=own_base h.sb.str a ha;have:=h.le;omega),blk_grown h.res hg.1 h.sb.str (by decide),h.sb.gstr hg,h.le⟩
theorem MT.srule (h:MT w T gr bn ba gs k rs cur ls ss v1 zv v3 v4 W) {x:RuleP} {u:Value} (hu:RuleO gs (rs++[x]) u W):MT w T gr bn ba gs k (rs++[x]) cur ls ss u zv v3 v4 (W.setCell ⟨gs,0,none⟩ u):=⟨h.tw.far (by have:=h.le;omega) u,h.res.far (by show gr≠gs;have:=h.le;have:=h.tw.le;omega) u,h.sb.srule hu,h.le⟩
theorem MT.slink (h:MT w T gr bn ba gs k rs cur ls ss v1 zv v3 v4 W) {x:LinkP} {u:Value} (hu:LinkO gs (ls++[x]) u W):MT w T gr bn ba gs k rs cur (ls++[x]) ss v1 zv u v4 (W.setCell ⟨gs,2,none⟩ u):=⟨h.tw.far (by have:=h.le;omega) u,h.res.far (by show gr≠gs;have:=h.le;have:=h.tw.le;omega) u,h.sb.slink hu,h.le⟩
theorem MT.sstr (h:MT w T gr bn ba gs k rs cur ls ss v1 zv v3 v4 W) {x:List UInt8} {u:Value} (hu:StrO gs (ss++[x]) u W):MT w T gr bn ba gs k rs cur ls (ss++[x]) v1 zv v3 u (W.setCell ⟨gs,3,none⟩ u):=⟨h.tw.far (by have:=h.le;omega) u,h.res.far (by show gr≠gs;have:=h.le;have:=h.tw.le;omega) u,h.sb.sstr hu,h.le⟩
end
def TabA (L Ty:Nat) (C:Array Value) (u:Value) (W:World):Prop:=∃g:Nat,u=.slice (some ⟨g,0,none⟩) C.size C.size∧Blk W g Ty C∧L≤g
def PtrA (L Ty:Nat) (C:Array Value) (u:Value) (W:World):Prop:=∃g i:Nat,u=.pointer (some ⟨g,i,none⟩)∧i<C.size∧Blk W g Ty C∧L≤g
def StrIn (l:List (List UInt8)) (u:Value) (_:World):Prop:=∃s ∈ l,u=.string ⟨s.toArray⟩
def PickI (fr:Int) (u:Value) (_:World):Prop:=∃t:Int,u=.int .i64 t∧(t=fr∨t=1048576∨t=2149)
def RuleVV (u:Value) (_:World):Prop:=∃x:RuleP,u=.agg x.cells∧RuleRight x
def RuleOne (L:Nat) (u:Value) (W:World):Prop:=∃x:RuleP,One 55 L x.cells u W∧RuleRight x
def RuleRow (B:Nat) (rs:List RuleP) (u:Value) (W:World):Prop:=∃x:RuleP,RuleO B (rs++[x]) u W∧RuleRight x
section
variable {c bn L B e m:Nat} {xs:List Value} {v:Value} {wf:Nat→Nat→Bool} {k:Nat} {n:Nat}
theorem gown_blk {w w':World} {g Ty:Nat} {C:Array Value} {q:Nat} (hG:GOwn e q B n xs v w w') (hl:Low L v) (hg:L≤g) (hb:Blk w g Ty C):Blk w' g Ty C:=(hG.1.block g hb.lt (fun hh=>by have:=hl g hh.symm;omega)).trans hb
theorem TabA.la (h:bn<L) (Ty:Nat) (C:Array Value):LastsA c bn (TabA L Ty C):=fun u w w' hA ⟨g,e1,hb,hl⟩=>⟨g,e1,hA.blk hb (by omega),hl⟩
theorem PtrA.la (h:bn<L) (Ty:Nat) (C:Array Value):LastsA c bn (PtrA L Ty C):=fun u w w' hA ⟨g,i,e1,hi,hb,hl⟩=>⟨g,i,e1,hi,hA.blk hb (by omega),hl⟩
theorem RuleOne.la (h:bn<L):LastsA c bn (RuleOne L):=fun u w w' hA ⟨x,⟨g,e1,hb,hl⟩,hx⟩=>⟨x,⟨g,e1,hA.blk hb (by omega),hl⟩,hx⟩
theorem RuleRow.la {rs:List RuleP} (h:bn<B):LastsA c bn (RuleRow B rs):=fun u w w' hA ⟨x,ho,hx⟩=>⟨x,hA.own ho (own_ne ho h),hx⟩
theorem TabA.g {q:Nat} (h:bn<L) (hl:Low L v) (Ty:Nat) (C:Array Value):∀i,i≠k→wf k i=false→∀u w w',RAt c bn m (GOwn e q B n xs v) i w w'→TabA L Ty C u w→TabA L Ty C u w':=(TabA.la h Ty C).at_ fun u w w' hG ⟨g,e1,hb,h2⟩=>⟨g,e1,gown_blk hG hl h2 hb,h2⟩
theorem PtrA.g {q:Nat} (h:bn<L) (hl:Low L v) (Ty:Nat) (C:Array Value):∀i,i≠k→wf k i=false→∀u w w',RAt c bn m (GOwn e q B n xs v) i w w'→PtrA L Ty C u w→PtrA L Ty C u w':=(PtrA.la h Ty C).at_ fun u w w' hG ⟨g,i,e1,hi,hb,h2⟩=>⟨g,i,e1,hi,gown_blk hG hl h2 hb,h2⟩
theorem RuleOne.g {q:Nat} (h:bn<L) (hl:Low L v):∀i,i≠k→wf k i=false→∀u w w',RAt c bn m (GOwn e q B n xs v) i w w'→RuleOne L u w→RuleOne L u w':=(RuleOne.la h).at_ fun u w w' hG ⟨x,⟨g,e1,hb,h2⟩,hx⟩=>⟨x,⟨g,e1,gown_blk hG hl h2 hb,h2⟩,hx⟩
theorem still {G:World→World→Prop} {p:Value→World→Prop} (h:∀u w w',p u w→p u w'):∀i,i≠k→wf k i=false→∀u w w',RAt c bn m G i w w'→p u w→p u w':=fun _ _ _ u w w' _=>h u w w'
theorem RuleRow.w {rs:List RuleP} {G:World→World→Prop} (h:bn<B):∀i,i≠k→wf k i=false→∀u w w',RAt c bn k G i w w'→RuleRow B rs u w→RuleRow B rs u w':=fun i hi _ u w w' hR=>by
 unfold RAt at hR;rw [if_neg hi] at hR;exact RuleRow.la h u w w' hR
end
theorem tree_rule {s1 s2:List UInt8} {fr tt mo d1 d2 d3 c1 c2 sv:Int} (h1:s1 ∈ ([[82],[69,117,45,120],[65,95,49]]:List (List UInt8))) (hf:1850≤fr∧fr≤2149) (ht:tt=fr∨tt=1048576∨tt=2149) (hm0:1≤mo) (hm1:mo≤12) (hd:rightDay d1 d2 d3=true) (hc:clockOk c1 c2=true) (hv0 : -7200≤sv) (hv1:sv≤7200) (h2:s2 ∈ ([[],[83],[68,68,83,84]]:List (List UInt8))) :
 RuleRight ⟨s1,fr,tt,mo,(d1,d2,d3),(c1,c2),sv,s2⟩:=by
 have n1:namedB fr=true:=by unfold namedB;simp;omega
 refine ⟨hd,hc,by show _≤sv∧sv≤_;omega,?_,n1,?_,⟨hm0,hm1⟩,?_⟩
 ·show setB s1=true
  simp only [List.mem_cons,List.not_mem_nil,or_false] at h1
  rcases h1 with rfl|rfl|rfl<;>decide +kernel
 ·show namedB tt=true∨tt=1048576
  rcases ht with rfl|rfl|rfl
  ·exact .inl n1
  ·exact .inr rfl
  ·exact .inl (by decide)
 ·show s2=[]∨ofB 1 4 1 s2=true
  simp only [List.mem_cons,List.not_mem_nil,or_false] at h2
  rcases h2 with rfl|rfl|rfl
  ·exact .inl rfl
  ·exact .inr (by decide +kernel)
  ·exact .inr (by decide +kernel)
theorem rule_ones (x:RuleP):∀u ∈ x.cells.toList,u.oneCell'=true:=fun u hu=>by
 have:=(rule_cells x).2;rw [Array.all_eq_true_iff_forall_mem] at this;exact this u (by simpa using hu)
theorem SB.pzone_ {B g:Nat} {rs:List RuleP} {cur:List ZV} {ls:List LinkP} {ss:List (List UInt8)} {v1 zv v3 v4:Value} {W W':World} (h:SB B g rs cur ls ss v1 zv v3 v4 W) (hg:W.grownBy W' zv.ownBlock) {x:ZV} {u:Value} (hu:ZoneO B (cur++[x]) u W') (hx:EraO B x.1.1.eras x.1.2 W'):SB B g rs (cur++[x]) ls ss v1 u v3 v4 (W'.setCell ⟨g,1,none⟩ u):=by
 have hout:=blk_grown h.out hg h.zone (by decide)
 exact ⟨hout.set_ 1 u,own_farT (h.rule.kept hg (own_apart h.rule h.zone (by decide))) hout (by decide) _,own_farT hu hout (by decide) _,own_farT (h.link.kept hg (own_apart h.link h.zone (by decide))) hout (by decide) _,own_farT (h.str.kept hg (own_apart h.str h.zone (by decide))) hout (by decide) _,fun q hq=>by
  rcases List.mem_append.1 hq with hq|hq
  ·exact own_farT ((h.eras q hq).kept hg (own_apart (h.eras q hq) h.zone (by decide))) hout (by decide) _
  ·rw [List.mem_singleton] at hq
   subst hq;exact own_farT hx hout (by decide) _⟩
theorem own_farM {B q j k n e L:Nat} {v:Value} {xs:List Value} {W:World} (h:W.ownsRow B e k v n xs) (hl:Low L v) (hq:L≤q) (u:Value):(W.setCell ⟨q,j,none⟩ u).ownsRow B e k v n xs:=by
 refine ⟨h.1,?_⟩
 rcases h.2 with h2|⟨g,cap,cur,e1,hg,hh,rest⟩
 ·exact .inl h2
 ·refine .inr ⟨g,cap,cur,e1,hg,Blk.far (show Blk W g e cur from hh) (fun hx=>?_) u,rest⟩
  have hx:g=q:=hx;have:=hl g (by rw [e1];simp [Value.ownBlock])
  omega
section
variable {w W W':World} {T:Array Value} {gr bn ba gs k k' c:Nat} {rs:List RuleP} {cur:List ZV} {ls:List LinkP} {ss:List (List UInt8)} {v1 zv v3 v4:Value}
theorem MT.pzone (h:MT w T gr bn ba gs k rs cur ls ss v1 zv v3 v4 W) (hg:W.grownBy W' zv.ownBlock) {x:ZV} {u:Value} (hu:ZoneO gs (cur++[x]) u W') (hx:EraO gs x.1.1.eras x.1.2 W'):MT w T gr bn ba gs k rs (cur++[x]) ls ss v1 u v3 v4 (W'.setCell ⟨gs,1,none⟩ u) :=
 ⟨(h.tw.grown hg (fun a ha=>by have:=own_base h.sb.zone a ha;have:=h.le;omega)).far (by have:=h.le;omega) u,(blk_grown h.res hg h.sb.zone (by decide)).far (by show gr≠gs;have:=h.le;have:=h.tw.le;omega) u,h.sb.pzone_ hg hu hx,h.le⟩
theorem MT.farL (h:MT w T gr bn ba gs k rs cur ls ss v1 zv v3 v4 W) {L q j:Nat} (hL:gs<L) (hq:L≤q) (l1:Low L v1) (l2:Low L zv) (l3:Low L v3) (l4:Low L v4) (l5:∀q ∈ cur,Low L q.1.2) (u:Value):MT w T gr bn ba gs k rs cur ls ss v1 zv v3 v4 (W.setCell ⟨q,j,none⟩ u):=by
 have hle:=h.le;have htl:=h.tw.le;have hs:=h.sb;exact ⟨h.tw.far (by omega) u,h.res.far (by show gr≠q;omega) u,⟨hs.out.far (by show gs≠q;omega) u,own_farM hs.rule l1 hq u,own_farM hs.zone l2 hq u,own_farM hs.link l3 hq u,own_farM hs.str l4 hq u,fun x hx=>own_farM (hs.eras x hx) (l5 x hx) hq u⟩,hle⟩
structure IT (w:World) (T:Array Value) (gr bn ba gs k:Nat) (rs:List RuleP) (cur:List ZV) (v1 zv:Value) (L gz:Nat) (nm:List UInt8) (es:List EraP) (ev:Value) (W:World):Prop where
 mt:MT w T gr bn ba gs k rs cur [] [] v1 zv (.slice none 0 0) (.slice none 0 0) W
 zb:Blk W gz 58 #[.string ⟨nm.toArray⟩,ev]
 zge:L≤gz
 era:EraO L es ev W
 lowr:Low L v1
 lowz:Low L zv
 lowe:∀q ∈ cur,Low L q.1.2
 le:gs<L
variable {L gz:Nat} {nm:List UInt8} {es:List EraP} {ev:Value}
theorem IT.bL (h:IT w T gr bn ba gs k rs cur v1 zv L gz nm es ev W):bn<L:=by have:=h.mt.bg;have:=h.le;omega
theorem IT.at_ (h:IT w T gr bn ba gs k rs cur v1 zv L gz nm es ev W) (ha:AtR c bn W W'):IT w T gr bn ba gs (k+c) rs cur v1 zv L gz nm es ev W' :=
 ⟨h.mt.at_ ha,ha.blk h.zb (by have:=h.bL;have:=h.zge;omega),h.zge,ha.own h.era (own_ne h.era h.bL),h.lowr,h.lowz,h.lowe,h.le⟩
theorem IT.mono (h:IT w T gr bn ba gs k rs cur v1 zv L gz nm es ev W) (hk:k≤k'):IT w T gr bn ba gs k' rs cur v1 zv L gz nm es ev W:=⟨h.mt.mono hk,h.zb,h.zge,h.era,h.lowr,h.lowz,h.lowe,h.le⟩
theorem IT.below (h:IT w T gr bn ba gs k rs cur v1 zv L gz nm es ev W) (hb:Below W.heap.size W W'):IT w T gr bn ba gs k rs cur v1 zv L gz nm es ev W':=⟨h.mt.below hb,h.zb.below hb h.zb.lt,h.zge,h.era.kept_ hb,h.lowr,h.lowz,h.lowe,h.le⟩
theorem IT.pera (h:IT w T gr bn ba gs k rs cur v1 zv L gz nm es ev W) (hg:W.grownBy W' ev.ownBlock) {x:EraP} {u:Value} (hu:EraO L (es++[x]) u W'):IT w T gr bn ba gs k rs cur v1 zv L gz nm (es++[x]) u (W'.setCell ⟨gz,1,none⟩ u):=by
 have hle:=h.le;have hml:=h.mt.le;have hs:=h.mt.sb;have hm:MT w T gr bn ba gs k rs cur [] [] v1 zv (.slice none 0 0) (.slice none 0 0) W':=⟨h.mt.tw.grown hg (fun a ha=>by have:=own_base h.era a ha;omega),blk_grown h.mt.res hg h.era (by decide),⟨blk_grown hs.out hg h.era (by decide),hs.rule.kept hg (own_apart hs.rule h.era (by decide)),hs.zone.kept hg (own_apart hs.zone h.era (by decide)),hs.link.kept hg (own_apart hs.link h.era (by decide)),hs.str.kept hg (own_apart hs.str h.era (by decide)),fun q hq=>own_up (hs.eras q hq) (h.lowe q hq) h.era hg⟩,h.mt.le⟩;have hb:=blk_grown h.zb hg h.era (by decide);exact ⟨hm.farL h.le h.zge h.lowr h.lowz (by intro g hg;simp [Value.ownBlock] at hg) (by intro g hg;simp [Value.ownBlock] at hg) h.lowe u,hb.set_ 1 u,h.zge,own_farT hu hb (by decide) _,h.lowr,h.lowz,h.lowe,h.le⟩
theorem IT.far (h:IT w T gr bn ba gs k rs cur v1 zv L gz nm es ev W) {L2 q j:Nat} (hz:gz<L2) (hL:L≤L2) (hq:L2≤q) (he:Low L2 ev) (u:Value):IT w T gr bn ba gs k rs cur v1 zv L gz nm es ev (W.setCell ⟨q,j,none⟩ u) :=
 ⟨h.mt.farL h.le (by omega) h.lowr h.lowz (by intro g hg;simp [Value.ownBlock] at hg) (by intro g hg;simp [Value.ownBlock] at hg) h.lowe u,h.zb.far (by show gz≠q;omega) u,h.zge,own_farM h.era he hq u,h.lowr,h.lowz,h.lowe,h.le⟩
theorem IT.sets {L2 q:Nat} (hz:gz<L2) (hL:L≤L2) (hq:L2≤q) (he:Low L2 ev):∀(vs:List Value) (o:Nat) (W:World),IT w T gr bn ba gs k rs cur v1 zv L gz nm es ev W→IT w T gr bn ba gs k rs cur v1 zv L gz nm es ev (W.setCells q o vs)
 | [],_,_,h=>h
 | u::vs,o,W,h=>IT.sets hz hL hq he vs (o+1) _ (h.far hz hL hq he u)
structure XT (w:World) (T:Array Value) (gr bn ba gs k:Nat) (rs:List RuleP) (cur:List ZV) (v1 zv:Value) (L gz:Nat) (nm:List UInt8) (es:List EraP) (ev:Value) (L2 gx:Nat) (X:EraP) (W:World):Prop where
 it:IT w T gr bn ba gs k rs cur v1 zv L gz nm es ev W
 xb:Blk W gx 62 X.cells
 xge:L2≤gx
 zl:gz<L2
 ll:L≤L2
 low:Low L2 ev
variable {L2 gx:Nat} {X:EraP}
theorem XT.at_ (h:XT w T gr bn ba gs k rs cur v1 zv L gz nm es ev L2 gx X W) (ha:AtR c bn W W'):XT w T gr bn ba gs (k+c) rs cur v1 zv L gz nm es ev L2 gx X W':=⟨h.it.at_ ha,ha.blk h.xb (by have:=h.it.bL;have:=h.xge;have:=h.ll;omega),h.xge,h.zl,h.ll,h.low⟩
theorem XT.mono (h:XT w T gr bn ba gs k rs cur v1 zv L gz nm es ev L2 gx X W) (hk:k≤k'):XT w T gr bn ba gs k' rs cur v1 zv L gz nm es ev L2 gx X W:=⟨h.it.mono hk,h.xb,h.xge,h.zl,h.ll,h.low⟩
theorem XT.below (h:XT w T gr bn ba gs k rs cur v1 zv L gz nm es ev L2 gx X W) (hb:Below W.heap.size W W'):XT w T gr bn ba gs k rs cur v1 zv L gz nm es ev L2 gx X W':=⟨h.it.below hb,h.xb.below hb h.xb.lt,h.xge,h.zl,h.ll,h.low⟩
theorem XT.mid (h:XT w T gr bn ba gs k rs cur v1 zv L gz nm es ev L2 gx X W) (A B C D:List Value) {Y:EraP} (hX:X.cells=(A++(B++D)).toArray) (hY:Y.cells=(A++(C++D)).toArray) (hs:C.length=B.length):XT w T gr bn ba gs k rs cur v1 zv L gz nm es ev L2 gx Y (W.setCells gx A.length C) :=
 ⟨h.it.sets h.zl h.ll h.xge h.low _ _,by rw [hY];exact Blk.setMid A B C D (by rw [←hX];exact h.xb) hs,h.xge,h.zl,h.ll,h.low⟩
theorem XT.set (h:XT w T gr bn ba gs k rs cur v1 zv L gz nm es ev L2 gx X W) (j:Nat) (u:Value) {Y:EraP} (hY:Y.cells=X.cells.setIfInBounds j u):XT w T gr bn ba gs k rs cur v1 zv L gz nm es ev L2 gx Y (W.setCell ⟨gx,j,none⟩ u):=⟨h.it.far h.zl h.ll h.xge h.low u,by rw [hY];exact h.xb.set_ j u,h.xge,h.zl,h.ll,h.low⟩
end
def NewEra (L:Nat) (u:Value) (W:World):Prop:=∃g:Nat,u=.pointer (some ⟨g,0,none⟩)∧Blk W g 62 EraP.none.cells∧L≤g
def EraVV (u:Value) (_:World):Prop:=∃(o:Int) (f:List UInt8),u=.agg (EraP.cells ⟨o,0,0,[],f,UntilP.none⟩) ∧ -604799≤o∧o≤604799∧fmtB f=true
def LinkVV (u:Value) (_:World):Prop:=∃x:LinkP,u=.agg x.cells∧linkOk x=true
def LinkOne (L:Nat) (u:Value) (W:World):Prop:=∃x:LinkP,One 64 L x.cells u W∧linkOk x=true
def LinkRow (B:Nat) (ls:List LinkP) (u:Value) (W:World):Prop:=∃x:LinkP,LinkO B (ls++[x]) u W∧linkOk x=true
section
variable {c bn L B e m:Nat} {xs:List Value} {v:Value} {wf:Nat→Nat→Bool} {k:Nat} {n:Nat}
theorem NewEra.la (h:bn<L):LastsA c bn (NewEra L):=fun u w w' hA ⟨g,e1,hb,hl⟩=>⟨g,e1,hA.blk hb (by omega),hl⟩
theorem LinkOne.la (h:bn<L):LastsA c bn (LinkOne L):=fun u w w' hA ⟨x,⟨g,e1,hb,hl⟩,hx⟩=>⟨x,⟨g,e1,hA.blk hb (by omega),hl⟩,hx⟩
theorem LinkOne.g {q:Nat} (h:bn<L) (hl:Low L v):∀i,i≠k→wf k i=false→∀u w w',RAt c bn m (GOwn e q B n xs v) i w w'→LinkOne L u w→LinkOne L u w':=(LinkOne.la h).at_ fun u w w' hG ⟨x,⟨g,e1,hb,h2⟩,hx⟩=>⟨x,⟨g,e1,gown_blk hG hl h2 hb,h2⟩,hx⟩
theorem LinkRow.la {rs:List LinkP} (h:bn<B):LastsA c bn (LinkRow B rs):=fun u w w' hA ⟨x,ho,hx⟩=>⟨x,hA.own ho (own_ne ho h),hx⟩
theorem LinkRow.w {rs:List LinkP} {G:World→World→Prop} (h:bn<B):∀i,i≠k→wf k i=false→∀u w w',RAt c bn k G i w w'→LinkRow B rs u w→LinkRow B rs u w':=fun i hi _ u w w' hR=>by
 unfold RAt at hR;rw [if_neg hi] at hR;exact LinkRow.la h u w w' hR
end
theorem til_snoc {es:List EraP} {Y:EraP} {t N:Nat} (hl:es.length=t) (h:∀(j:Nat) (e:EraP),es[j]? = some e→e.til.is=decide (j+1<N)) (hY:Y.til.is=decide (t+1<N)):∀(j:Nat) (e:EraP),(es++[Y])[j]? = some e→e.til.is=decide (j+1<N):=fun j e he=>by
 rcases Nat.lt_trichotomy j es.length with hj|hj|hj
 ·rw [List.getElem?_append_left hj] at he
  exact h j e he
 ·rw [hj,List.getElem?_append_right (Nat.le_refl _),Nat.sub_self] at he
  cases he
  rw [hY,hj,hl]
 ·rw [List.getElem?_eq_none (by simp;omega)] at he
  cases he
theorem all_snoc {α:Type} {p:α→Prop} {l:List α} {x:α} (h:∀y ∈ l,p y) (hx:p x):∀y ∈ l++[x],p y:=fun y hy=>by
 rcases List.mem_append.1 hy with h1|h1
 ·exact h y h1
 ·rw [List.mem_singleton.1 h1];exact hx
def StrOn (L:Nat) (l:List (List UInt8)) (u:Value) (W:World):Prop:=∃s:List UInt8,One 9 L (encS s) u W∧s ∈ l
def StrRw (B:Nat) (ss l:List (List UInt8)) (u:Value) (W:World):Prop:=∃s:List UInt8,StrO B (ss++[s]) u W∧s ∈ l
section
variable {c bn L B e m:Nat} {xs:List Value} {v:Value} {wf:Nat→Nat→Bool} {k:Nat} {n:Nat} {l ss:List (List UInt8)}
theorem StrOn.la (h:bn<L):LastsA c bn (StrOn L l):=fun u w w' hA ⟨x,⟨g,e1,hb,hl⟩,hx⟩=>⟨x,⟨g,e1,hA.blk hb (by omega),hl⟩,hx⟩
theorem StrOn.g {q:Nat} (h:bn<L) (hl:Low L v):∀i,i≠k→wf k i=false→∀u w w',RAt c bn m (GOwn e q B n xs v) i w w'→StrOn L l u w→StrOn L l u w':=(StrOn.la h).at_ fun u w w' hG ⟨x,⟨g,e1,hb,h2⟩,hx⟩=>⟨x,⟨g,e1,gown_blk hG hl h2 hb,h2⟩,hx⟩
theorem StrRw.la (h:bn<B):LastsA c bn (StrRw B ss l):=fun u w w' hA ⟨x,ho,hx⟩=>⟨x,hA.own ho (own_ne ho h),hx⟩
theorem StrRw.w {G:World→World→Prop} (h:bn<B):∀i,i≠k→wf k i=false→∀u w w',RAt c bn k G i w w'→StrRw B ss l u w→StrRw B ss l u w':=fun i hi _ u w w' hR=>by
 unfold RAt at hR;rw [if_neg hi] at hR;exact StrRw.la h u w w' hR
end
def znB (j:Nat):List UInt8:=if j=0 then [65] else if j=1 then [69,117,47,66,45,99] else [88,47,89,47,122,43,49]
theorem znB_ok (j:Nat):zoneB (znB j)=true:=by unfold znB;split;decide +kernel;split<;>decide +kernel
def otB (j:Nat):List UInt8:=if j=0 then [82] else [79,116,104,101,114]
theorem otB_ok (j:Nat):setB (otB j)=true:=by unfold otB;split<;>decide +kernel
theorem tree_fmt {f:List UInt8} (h:f ∈ ([[76,77,84],[65,47,66],[69,37,115,84],[37,122],[43,48,53,47,43,48,54]]:List (List UInt8))):fmtB f=true:=by
 simp only [List.mem_cons,List.not_mem_nil,or_false] at h
 rcases h with rfl|rfl|rfl|rfl|rfl<;>decide +kernel
theorem relAt_bytes1 {P:Program} {o:Oper} {a:Act} {w:World} {x:Operand} {src dst e:TypeId} (ho:o.op=.convert src dst x) (hs:P.underlying src=some (.slice e)) (he:P.underlying e=some (.int .u8)) (hd:P.underlying dst=some .string) (g c:Nat) (n:Int) (hx:a.eval x=.slice (some ⟨g,0,none⟩) 1 c) (hc:w.cell? ⟨g,0,none⟩=some (.int .u8 n)):relAt P o a w fun u _=>u=.string ⟨#[UInt8.ofNat n.toNat]⟩:=by
 have h:=run_convert_bytes_arg (P:=P) w src e hs he g 0 1 c [n] rfl (fun i hi=>by
  obtain rfl:i=0:=by omega
  simpa using hc) dst hd
 unfold relAt
 simp [execOp,ho,hx,h,relUpon,Result.andThen,strOfNums]
 exact Below.refl _ _
theorem tree_set {x:List UInt8} (h:x ∈ ([[82],[69,117,45,120]]:List (List UInt8))):setB x=true:=by
 simp only [List.mem_cons,List.not_mem_nil,or_false] at h
 rcases h with rfl|rfl<;>decide +kernel
def StrIs (l:List UInt8) (u:Value) (_:World):Prop:=u=.string ⟨l.toArray⟩
theorem until_none:UntilRight UntilP.none:=⟨fun _=>rfl,fun h=>(by cases h),fun h=>(by cases h),fun h=>(by cases h),fun h=>(by cases h)⟩
theorem until_made {y m d1 d2 d3 c1 c2:Int} (hy:1850≤y∧y≤2149) (hm:1≤m∧m≤12) (hd:rightDay d1 d2 d3=true) (hc:clockOk c1 c2=true):UntilRight ⟨true,y,m,(d1,d2,d3),(c1,c2)⟩:=⟨fun h=>(by cases h),fun _=>(by unfold namedB;simp;omega),fun _=>hm,fun _=>hd,fun _=>hc⟩
theorem era_kind {o k s:Int} {st f:List UInt8} {u:UntilP} (ho : -604799≤o∧o≤604799) (hf:fmtB f=true) (hu:UntilRight u) (h:(k=0∧s=0∧st=[])∨(k=1∧0≤s∧s≤604799∧st=[])∨(k=2∧s=0∧setB st=true)):EraRight ⟨o,k,s,st,f,u⟩:=by
 rcases h with ⟨rfl,rfl,rfl⟩|⟨rfl,h1,h2,rfl⟩|⟨rfl,rfl,h1⟩
 ·exact ⟨ho,⟨Int.le_refl 0,show (0:Int)≤2 by decide⟩,fun _=>rfl,fun h=>absurd h (show ¬(0:Int)=1 by decide),fun h=>absurd h (show ¬(0:Int)=2 by decide),fun _=>rfl,hf,hu⟩
 ·exact ⟨ho,⟨show (0:Int)≤1 by decide,show (1:Int)≤2 by decide⟩,fun h=>absurd rfl h,fun _=>⟨by show -604799≤s;omega,h2⟩,fun h=>absurd h (show ¬(1:Int)=2 by decide),fun _=>rfl,hf,hu⟩
 ·exact ⟨ho,⟨show (0:Int)≤2 by decide,Int.le_refl 2⟩,fun _=>rfl,fun h=>absurd h (show ¬(2:Int)=1 by decide),fun _=>h1,fun h=>absurd rfl h,hf,hu⟩
theorem tree_zone {nm:List UInt8} {es:List EraP} {N:Nat} (hn:zoneB nm=true) (hl:es.length=N) (h0:0<N) (hr:∀e ∈ es,EraRight e) (ht:∀(j:Nat) (e:EraP),es[j]? = some e→e.til.is=decide (j+1<N)):zoneOk ⟨nm,es⟩=true:=by
 unfold zoneOk;simp only [hn,Bool.true_and,Bool.and_eq_true];refine ⟨⟨?_,?_⟩,?_⟩
 ·cases es with
  | nil=>simp at hl;omega
  | cons a l=>rfl
 ·refine (endsB_iff _).2 fun j e h=>?_
  have hj:=(List.getElem?_eq_some_iff.1 h).1;rw [ht j e h];exact decide_eq_decide.2 ⟨fun _=>by omega,fun _=>by omega⟩
 ·exact List.all_eq_true.2 fun e he=>(eraOk_iff _).2 (hr e he)
theorem tree_link (j:Nat) (hj:j≤2) {bt:UInt8} (hb:UInt8.ofNat (97+(j:Int)).toNat=bt):∀s ∈ ([[65],[69,117,47,66,45,99]]:List (List UInt8)),linkOk ⟨s,[76,47,bt]⟩=true:=fun s hs=>by
 subst hb;simp only [List.mem_cons,List.not_mem_nil,or_false] at hs
 rcases (by omega:j=0∨j=1∨j=2) with rfl|rfl|rfl<;>rcases hs with rfl|rfl<;>decide +kernel
theorem tmade_any (r z l s:Nat) (v:Value) (bs:List Nat) (w:World) (hr:RowsAt w w.heap.size 1 encY8 v bs) (hbs:∀x ∈ bs,x<256) (hr8:r<256) (hz8:z<256) (hl8:l<256) (hs8:s<256) :
 Calls Tryz.prog 4 #[.agg (treeC r z l s v)] w fun ex w'=>(∃(sr:SourceP) (v1 zv v3 v4:Value) (cur:List ZV),ex=.returned (.agg #[v1,zv,v3,v4])∧cur.map (fun q:ZV=>q.1.1)=sr.zones∧SrcRight sr∧sr.rules.length≤4∧sr.zones.length≤3∧(∀x ∈ sr.zones,x.eras.length≤3)∧sr.links.length≤3∧sr.shifts.length≤2∧SrcIs w' w'.heap.size v1 zv v3 v4 (cur.map (·.1)) sr)∧Below w.heap.size w w':=by
 obtain ⟨irule,zrule,hirule,hzrule,hszrule,hbyrule,hzcrule⟩:=info_st (P:=Tryz.prog) (e:=55) (k:=11) (by kernel_rfl);obtain ⟨ilink,zlink,hilink,hzlink,hszlink,hbylink,hzclink⟩:=info_st (P:=Tryz.prog) (e:=64) (k:=2) (by kernel_rfl);obtain ⟨istr,zstr,histr,hzstr,hszstr,hbystr,hzcstr⟩:=info_st (P:=Tryz.prog) (e:=9) (k:=1) (by kernel_rfl);obtain ⟨iera,zera,hiera,hzera,hszera,hbyera,hzcera⟩:=info_st (P:=Tryz.prog) (e:=62) (k:=13) (by kernel_rfl);obtain ⟨izone,zzone,hizone,hzzone,hszzone,hbyzone,hzczone⟩:=info_st (P:=Tryz.prog) (e:=58) (k:=2) (by kernel_rfl);obtain ⟨p0,c0,rfl,hrr⟩:=hr;have HRR:=hid (show RowsAt w w.heap.size 1 encY8 (.slice p0 bs.length c0) bs from ⟨p0,c0,rfl,hrr⟩);have HBS:=hid hbs;clear hrr hbs
 go_enter Tryz.func4,Tryz.ntmps4
 go_upto_region 6 with fail
 have HM:=hid (show MT w (treeC r z l s (.slice p0 bs.length c0)) (w.heap.size+1) (w.heap.size+1+1) (w.heap.size+1+1+1) (w.heap.size+1+1+1+1) 0 [] [] [] [] (.slice none 0 0) (.slice none 0 0) (.slice none 0 0) (.slice none 0 0) (((((w.alloc (.cells (treeC r z l s (.slice p0 bs.length c0)) 24)).alloc (.cells #[.slice none 0 0,.slice none 0 0,.slice none 0 0,.slice none 0 0] 30)).alloc (.cells #[.int .i64 0] 3)).alloc (.cells #[.func (.func 10) #[] #[.pointer (some ⟨w.heap.size+1+1,0,none⟩),.pointer (some ⟨w.heap.size,0,none⟩)]] 46)).alloc (.cells #[.slice none 0 0,.slice none 0 0,.slice none 0 0,.slice none 0 0] 30)) from ⟨⟨((((Blk.new' _ _ _ rfl).alloc _).alloc _).alloc _).alloc _,⟨0,(((Blk.new' _ _ _ (by simp)).alloc _).alloc _),Nat.le_refl _⟩,(Blk.new' _ _ _ (by simp)).alloc _,(((((Below.refl _ _).alloc (Nat.le_refl _) _).alloc (by simp) _).alloc (by simp;omega) _).alloc (by simp;omega) _).alloc (by simp;omega) _,by omega⟩,(((Blk.new' _ _ _ (by simp)).alloc _).alloc _).alloc _,SB.none_ (Blk.new' _ _ _ (by simp)),by omega⟩);generalize ((((w.alloc (.cells (treeC r z l s (.slice p0 bs.length c0)) 24)).alloc (.cells #[.slice none 0 0,.slice none 0 0,.slice none 0 0,.slice none 0 0] 30)).alloc (.cells #[.int .i64 0] 3)).alloc (.cells #[.func (.func 10) #[] #[.pointer (some ⟨w.heap.size+1+1,0,none⟩),.pointer (some ⟨w.heap.size,0,none⟩)]] 46)).alloc (.cells #[.slice none 0 0,.slice none 0 0,.slice none 0 0,.slice none 0 0] 30)=w0 at *;generalize w.heap.size+1+1+1+1=gs at *;generalize w.heap.size+1+1+1=ba at *;generalize w.heap.size+1+1=bn at *;generalize w.heap.size+1=gr at *;have HTO:=hid (show TreeOk w.heap.size w.heap.size bn ba (treeC r z l s (.slice p0 bs.length c0)) w from treeOk HRR.out HBS.out);obtain ⟨r5,hr5⟩:∃r5,r % 5=r5:=⟨_,rfl⟩;have hr2:(r:Int) % 5=(r5:Int):=by omega
 have hr4:r5≤4:=by omega
 have c0_:w0.cell? ⟨w.heap.size,0,none⟩=some (.int .u8 (r:Int)):=HM.out.tw.tree.cell_ (i:=0) rfl;clear hr5
 go_upto_region 7 with fail
 simp only [hr2];clear hr2 c0_
 go_loopw [23] (fun i wr=>∃(j k:Nat) (Rs:List RuleP) (v1:Value),j≤r5∧i=.int .i64 (j:Int)∧k≤1000*j∧Hid (Rs.length=j)∧Hid (∀x ∈ Rs,RuleRight x)∧Hid (MT w (treeC r z l s (.slice p0 bs.length c0)) gr bn ba gs k Rs [] [] [] v1 (.slice none 0 0) (.slice none 0 0) (.slice none 0 0) wr)) (fun i _=>r5-(intOf i).toNat)
 case atStart=>exact ⟨0,0,[],_,Nat.zero_le _,rfl,Nat.zero_le _,hid rfl,hid (by simp),HM⟩
 case round =>
 clear HM;obtain ⟨j,k,Rs,v1,hj,rfl,hk,HNr,HR,HS⟩:=hrel
 by_cases hlt:j<r5
 ·have hd:decide ((j:Int)<(r5:Int))=true:=by simp;omega
  have cf:wr.cell? ⟨ba,0,none⟩=some (.func (.func 10) #[] #[.pointer (some ⟨bn,0,none⟩),.pointer (some ⟨w.heap.size,0,none⟩)]):=HS.out.tw.fn.cell_ rfl;go_wp2_with fail
  refine (HTO.out.at_ _ _ HS.out.tw (by omega) 256 (by decide)).mono ?_;rintro e w2 ⟨⟨y,rfl,h0,h1⟩,hat⟩;have HS2:=hid (HS.out.at_ hat);have hw:IntKind.i64.wrap (1850+y)=1850+y:=IntWalk.i64_in _ (by omega);clear cf hat HS
  go_upto_region 9 with fail
  have HFR:=hid (show 1850≤1850+y∧1850+y≤2149 from by omega);generalize 1850+y=fr at *;clear h0 h1 hw;obtain ⟨L,hL⟩:∃L,w2.heap.size=L:=⟨_,rfl⟩;have HLL:=hid (show Low L v1 from by rw [←hL];exact low_of HS2.out.sb.rule);have HbL:=hid (show bn<L from by have:=HS2.out.bg;have:=HS2.out.sb.out.lt;omega);have HbG:=hid HS2.out.bg;obtain ⟨q1,d1,rfl⟩:=own_form HS2.out.sb.rule;have HGB:=hid (show ∀w w2:World,Below w.heap.size w w2→(GRule gs Rs (.slice q1 Rs.length d1)) w w2 from fun w w2 h=>GOwn.of_below _ _ h);refine wp_region_at 34 [[],[],[],[],[],[2,4],[5],[],[],[],[],[],[9,11],[12],[],[],[15],[],[],[],[],[],[],[22],[23],[],[],[],[25,27],[28],[6,13,16,18,20,24,29],[30],[31],[]] [Form.val,Form.val,Form.rel (TabA L 9 #[.string ⟨#[82]⟩,.string ⟨#[69,117,45,120]⟩,.string ⟨#[65,95,49]⟩]),Form.val,Form.rel (IntIn 0 2),Form.rel (PtrA L 9 #[.string ⟨#[82]⟩,.string ⟨#[69,117,45,120]⟩,.string ⟨#[65,95,49]⟩]),Form.rel (StrIn [[82],[69,117,45,120],[65,95,49]]),Form.val,Form.val,Form.rel (TabA L 3 #[.int .i64 fr,.int .i64 1048576,.int .i64 2149]),Form.val,Form.rel (IntIn 0 2),Form.rel (PtrA L 3 #[.int .i64 fr,.int .i64 1048576,.int .i64 2149]),Form.rel (PickI fr),Form.val,Form.rel (IntIn 0 11),Form.rel (IntIn 1 12),Form.val,Form.rel (DayV),Form.val,Form.rel (ClockV),Form.val,Form.rel (IntIn 0 8),Form.rel (IntIn (-4) 4),Form.rel (IntIn (-7200) 7200),Form.rel (TabA L 9 #[.string ⟨#[]⟩,.string ⟨#[83]⟩,.string ⟨#[68,68,83,84]⟩]),Form.val,Form.rel (IntIn 0 2),Form.rel (PtrA L 9 #[.string ⟨#[]⟩,.string ⟨#[83]⟩,.string ⟨#[68,68,83,84]⟩]),Form.rel (StrIn [[],[83],[68,68,83,84]]),Form.rel (RuleVV),Form.rel (RuleOne L),Form.rel (RuleRow gs Rs),Form.val] 32 24 bn (GRule gs Rs (.slice q1 Rs.length d1)) (fun k W=>MT w (treeC r z l s (.slice p0 bs.length c0)) gr bn ba gs k Rs [] [] [] (.slice q1 Rs.length d1) (.slice none 0 0) (.slice none 0 0) (.slice none 0 0) W∧L≤W.heap.size) (k+1) (by kernel_rfl) (by kernel_rfl) rfl rfl (fun w=>GOwn.of_below _ _ (Below.refl _ _)) (fun _ _ h=>h.1.size) (⟨HS2.out.below (Below.refl _ _).drew,by rw [←hL];exact Nat.le_refl _⟩) (fun k w1 w2 h ha=>⟨h.1.at_ ha,Nat.le_trans h.2 ha.size⟩) (fun k w1 w2 h hg=>⟨(h.1.grule hg).mono (by omega),Nat.le_trans h.2 hg.1.size⟩) ⟨(TabA.g HbL.out HLL.out _ _),(still (fun _ _ _ h=>h)),(PtrA.g HbL.out HLL.out _ _),(still (fun _ _ _ h=>h)),(TabA.g HbL.out HLL.out _ _),(still (fun _ _ _ h=>h)),(PtrA.g HbL.out HLL.out _ _),(still (fun _ _ _ h=>h)),(still (fun _ _ _ h=>h)),(still (fun _ _ _ h=>h)),(still (fun _ _ _ h=>h)),(still (fun _ _ _ h=>h)),(still (fun _ _ _ h=>h)),(still (fun _ _ _ h=>h)),(still (fun _ _ _ h=>h)),(TabA.g HbL.out HLL.out _ _),(still (fun _ _ _ h=>h)),(PtrA.g HbL.out HLL.out _ _),(still (fun _ _ _ h=>h)),(still (fun _ _ _ h=>h)),(RuleOne.g HbL.out HLL.out),(RuleRow.w HbG.out),trivial⟩ ?_
  repeat (first|apply exSpec_rel|apply exSpec_new|apply exSpec_val)
  apply relWalkN_ex rfl (fun _ _ h=>RAt.of_below HGB.out h) ?op0 (fun K hK=>?np0)
  case op0 =>
   intro W hC hF;obtain ⟨f,hfn,hI⟩:=hC;go_simp
   all_goals first|exact ⟨Below.refl _ _,rfl⟩|exact Below.refl _ _
  case' np0 =>
   go_simp;refine hK _ ?_;clear hK K
  apply relWalkN_ex rfl (fun _ _ h=>RAt.of_below HGB.out h) ?op1 (fun K hK=>?np1)
  case op1 =>
   intro W hC hF;obtain ⟨f,hfn,hI⟩:=hC;have s0:=hI.1.sb.out.cell_ (i:=0) rfl;go_simp;exact ⟨Below.refl _ _,rfl⟩
  case' np1 =>
   go_simp;refine hK _ ?_;clear hK K
  apply relWalkN_rel rfl (fun _ _ h=>RAt.of_below HGB.out h) ?op2 (fun u2 K hK=>?np2)
  case op2 =>
   intro W hC hF;obtain ⟨f,hfn,hI⟩:=hC;have hL9:=hI.2;go_simp;exact ⟨(Below.refl _ _).alloc (Nat.le_refl _) _,_,rfl,Blk.new' _ _ _ rfl,hL9⟩
  case' np2 =>
   go_simp;refine hK _ ?_;clear hK K
  apply relWalkN_ex rfl (fun _ _ h=>RAt.of_below HGB.out h) ?op3 (fun K hK=>?np3)
  case op3 =>
   intro W hC hF;obtain ⟨f,hfn,hI⟩:=hC;have cf:W.cell? ⟨ba,0,none⟩=some (.func (.func 10) #[] #[.pointer (some ⟨bn,0,none⟩),.pointer (some ⟨w.heap.size,0,none⟩)]):=hI.1.tw.fn.cell_ rfl;go_simp;exact ⟨Below.refl _ _,rfl⟩
  case' np3 =>
   go_simp;refine hK _ ?_;clear hK K
  apply relWalkN_at rfl (G:=AtR 24 bn) (by first|rfl|exact if_neg (by decide)) ?op4 (fun u4 K hK=>?np4)
  case op4 =>
   intro W hC hF;obtain ⟨f,hfn,hI⟩:=hC;have hTW:=hI.1.tw;go_simp;exact (HTO.out.at_ _ _ hTW (by omega) 3 (by decide)).mono fun e w2 ⟨⟨y,he,h0,h1⟩,hb⟩=>⟨_,he,hb.mono (by omega),_,rfl,h0,by omega⟩
  case' np4 =>
   go_simp;refine hK _ ?_;clear hK K
  apply relWalkN_rel rfl (fun _ _ h=>RAt.of_below HGB.out h) ?op5 (fun u5 K hK=>?np5)
  case op5 =>
   intro W hC hF;obtain ⟨f,hfn,hI⟩:=hC;obtain ⟨⟨g,rfl,hb,hl⟩,⟨y,rfl,h0,h1⟩,-⟩:=hF
   rcases (by omega:y=0∨y=1∨y=2) with rfl|rfl|rfl
   ·go_simp
    exact ⟨Below.refl _ _,g,0,rfl,(show (0:Nat)<3 from by decide),hb,hl⟩
   ·go_simp
    exact ⟨Below.refl _ _,g,1,rfl,(show (1:Nat)<3 from by decide),hb,hl⟩
   ·go_simp
    exact ⟨Below.refl _ _,g,2,rfl,(show (2:Nat)<3 from by decide),hb,hl⟩
  case' np5 =>
   go_simp;refine hK _ ?_;clear hK K
  apply relWalkN_rel rfl (fun _ _ h=>RAt.of_below HGB.out h) ?op6 (fun u6 K hK=>?np6)
  case op6 =>
   intro W hC hF;obtain ⟨f,hfn,hI⟩:=hC;obtain ⟨⟨g,i,rfl,hi,hb,hl⟩,-⟩:=hF;have hi9:i<3:=hi;clear hi
   rcases (by omega:i=0∨i=1∨i=2) with rfl|rfl|rfl
   ·have q:=hb.cell_ (i:=0) rfl
    go_simp;exact ⟨Below.refl _ _,[82],by simp,rfl⟩
   ·have q:=hb.cell_ (i:=1) rfl
    go_simp;exact ⟨Below.refl _ _,[69,117,45,120],by simp,rfl⟩
   ·have q:=hb.cell_ (i:=2) rfl
    go_simp;exact ⟨Below.refl _ _,[65,95,49],by simp,rfl⟩
  case' np6 =>
   go_simp;refine hK _ ?_;clear hK K
  apply relWalkN_ex rfl (fun _ _ h=>RAt.of_below HGB.out h) ?op7 (fun K hK=>?np7)
  case op7 =>
   intro W hC hF;obtain ⟨f,hfn,hI⟩:=hC;go_simp
   all_goals first|exact ⟨Below.refl _ _,rfl⟩|exact Below.refl _ _
  case' np7 =>
   go_simp;refine hK _ ?_;clear hK K
  apply relWalkN_ex rfl (fun _ _ h=>RAt.of_below HGB.out h) ?op8 (fun K hK=>?np8)
  case op8 =>
   intro W hC hF;obtain ⟨f,hfn,hI⟩:=hC;go_simp
   all_goals first|exact ⟨Below.refl _ _,rfl⟩|exact Below.refl _ _
  case' np8 =>
   go_simp;refine hK _ ?_;clear hK K
  apply relWalkN_rel rfl (fun _ _ h=>RAt.of_below HGB.out h) ?op9 (fun u9 K hK=>?np9)
  case op9 =>
   intro W hC hF;obtain ⟨f,hfn,hI⟩:=hC;have hL9:=hI.2;go_simp;exact ⟨(Below.refl _ _).alloc (Nat.le_refl _) _,_,rfl,Blk.new' _ _ _ rfl,hL9⟩
  case' np9 =>
   go_simp;refine hK _ ?_;clear hK K
  apply relWalkN_ex rfl (fun _ _ h=>RAt.of_below HGB.out h) ?op10 (fun K hK=>?np10)
  case op10 =>
   intro W hC hF;obtain ⟨f,hfn,hI⟩:=hC;have cf:W.cell? ⟨ba,0,none⟩=some (.func (.func 10) #[] #[.pointer (some ⟨bn,0,none⟩),.pointer (some ⟨w.heap.size,0,none⟩)]):=hI.1.tw.fn.cell_ rfl;go_simp;exact ⟨Below.refl _ _,rfl⟩
  case' np10 =>
   go_simp;refine hK _ ?_;clear hK K
  apply relWalkN_at rfl (G:=AtR 24 bn) (by first|rfl|exact if_neg (by decide)) ?op11 (fun u11 K hK=>?np11)
  case op11 =>
   intro W hC hF;obtain ⟨f,hfn,hI⟩:=hC;have hTW:=hI.1.tw;go_simp;exact (HTO.out.at_ _ _ hTW (by omega) 3 (by decide)).mono fun e w2 ⟨⟨y,he,h0,h1⟩,hb⟩=>⟨_,he,hb.mono (by omega),_,rfl,h0,by omega⟩
  case' np11 =>
   go_simp;refine hK _ ?_;clear hK K
  apply relWalkN_rel rfl (fun _ _ h=>RAt.of_below HGB.out h) ?op12 (fun u12 K hK=>?np12)
  case op12 =>
   intro W hC hF;obtain ⟨f,hfn,hI⟩:=hC;obtain ⟨⟨g,rfl,hb,hl⟩,⟨y,rfl,h0,h1⟩,-⟩:=hF
   rcases (by omega:y=0∨y=1∨y=2) with rfl|rfl|rfl
   ·go_simp
    exact ⟨Below.refl _ _,g,0,rfl,(show (0:Nat)<3 from by decide),hb,hl⟩
   ·go_simp
    exact ⟨Below.refl _ _,g,1,rfl,(show (1:Nat)<3 from by decide),hb,hl⟩
   ·go_simp
    exact ⟨Below.refl _ _,g,2,rfl,(show (2:Nat)<3 from by decide),hb,hl⟩
  case' np12 =>
   go_simp;refine hK _ ?_;clear hK K
  apply relWalkN_rel rfl (fun _ _ h=>RAt.of_below HGB.out h) ?op13 (fun u13 K hK=>?np13)
  case op13 =>
   intro W hC hF;obtain ⟨f,hfn,hI⟩:=hC;obtain ⟨⟨g,i,rfl,hi,hb,hl⟩,-⟩:=hF;have hi9:i<3:=hi;clear hi
   rcases (by omega:i=0∨i=1∨i=2) with rfl|rfl|rfl
   ·have q:=hb.cell_ (i:=0) rfl
    go_simp;exact ⟨Below.refl _ _,_,rfl,by simp⟩
   ·have q:=hb.cell_ (i:=1) rfl
    go_simp;exact ⟨Below.refl _ _,_,rfl,by simp⟩
   ·have q:=hb.cell_ (i:=2) rfl
    go_simp;exact ⟨Below.refl _ _,_,rfl,by simp⟩
  case' np13 =>
   go_simp;refine hK _ ?_;clear hK K
  apply relWalkN_ex rfl (fun _ _ h=>RAt.of_below HGB.out h) ?op14 (fun K hK=>?np14)
  case op14 =>
   intro W hC hF;obtain ⟨f,hfn,hI⟩:=hC;have cf:W.cell? ⟨ba,0,none⟩=some (.func (.func 10) #[] #[.pointer (some ⟨bn,0,none⟩),.pointer (some ⟨w.heap.size,0,none⟩)]):=hI.1.tw.fn.cell_ rfl;go_simp;exact ⟨Below.refl _ _,rfl⟩
  case' np14 =>
   go_simp;refine hK _ ?_;clear hK K
  apply relWalkN_at rfl (G:=AtR 24 bn) (by first|rfl|exact if_neg (by decide)) ?op15 (fun u15 K hK=>?np15)
  case op15 =>
   intro W hC hF;obtain ⟨f,hfn,hI⟩:=hC;have hTW:=hI.1.tw;go_simp;exact (HTO.out.at_ _ _ hTW (by omega) 12 (by decide)).mono fun e w2 ⟨⟨y,he,h0,h1⟩,hb⟩=>⟨_,he,hb.mono (by omega),_,rfl,h0,by omega⟩
  case' np15 =>
   go_simp;refine hK _ ?_;clear hK K
  apply relWalkN_rel rfl (fun _ _ h=>RAt.of_below HGB.out h) ?op16 (fun u16 K hK=>?np16)
  case op16 =>
   intro W hC hF;obtain ⟨f,hfn,hI⟩:=hC;obtain ⟨⟨y,rfl,h0,h1⟩,-⟩:=hF;have hw:IntKind.i64.wrap (1+y)=1+y:=IntWalk.i64_in _ (by omega);go_simp;exact ⟨Below.refl _ _,_,rfl,by omega,by omega⟩
  case' np16 =>
   go_simp;refine hK _ ?_;clear hK K
  apply relWalkN_ex rfl (fun _ _ h=>RAt.of_below HGB.out h) ?op17 (fun K hK=>?np17)
  case op17 =>
   intro W hC hF;obtain ⟨f,hfn,hI⟩:=hC;go_simp
   all_goals first|exact ⟨Below.refl _ _,rfl⟩|exact Below.refl _ _
  case' np17 =>
   go_simp;refine hK _ ?_;clear hK K
  apply relWalkN_at rfl (G:=AtR 24 bn) (by first|rfl|exact if_neg (by decide)) ?op18 (fun u18 K hK=>?np18)
  case op18 =>
   intro W hC hF;obtain ⟨f,hfn,hI⟩:=hC;have hTW:=hI.1.tw;go_simp;exact (tday_any hTW HTO.out (by omega)).mono fun e w2 ⟨⟨u,he,hd⟩,hb⟩=>⟨_,he,hb,hd⟩
  case' np18 =>
   go_simp;refine hK _ ?_;clear hK K
  apply relWalkN_ex rfl (fun _ _ h=>RAt.of_below HGB.out h) ?op19 (fun K hK=>?np19)
  case op19 =>
   intro W hC hF;obtain ⟨f,hfn,hI⟩:=hC;go_simp
   all_goals first|exact ⟨Below.refl _ _,rfl⟩|exact Below.refl _ _
  case' np19 =>
   go_simp;refine hK _ ?_;clear hK K
  apply relWalkN_at rfl (G:=AtR 24 bn) (by first|rfl|exact if_neg (by decide)) ?op20 (fun u20 K hK=>?np20)
  case op20 =>
   intro W hC hF;obtain ⟨f,hfn,hI⟩:=hC;have hTW:=hI.1.tw;go_simp;exact (tclock_any hTW HTO.out (by omega)).mono fun e w2 ⟨⟨u,he,hd⟩,hb⟩=>⟨_,he,hb,hd⟩
  case' np20 =>
   go_simp;refine hK _ ?_;clear hK K
  apply relWalkN_ex rfl (fun _ _ h=>RAt.of_below HGB.out h) ?op21 (fun K hK=>?np21)
  case op21 =>
   intro W hC hF;obtain ⟨f,hfn,hI⟩:=hC;have cf:W.cell? ⟨ba,0,none⟩=some (.func (.func 10) #[] #[.pointer (some ⟨bn,0,none⟩),.pointer (some ⟨w.heap.size,0,none⟩)]):=hI.1.tw.fn.cell_ rfl;go_simp;exact ⟨Below.refl _ _,rfl⟩
  case' np21 =>
   go_simp;refine hK _ ?_;clear hK K
  apply relWalkN_at rfl (G:=AtR 24 bn) (by first|rfl|exact if_neg (by decide)) ?op22 (fun u22 K hK=>?np22)
  case op22 =>
   intro W hC hF;obtain ⟨f,hfn,hI⟩:=hC;have hTW:=hI.1.tw;go_simp;exact (HTO.out.at_ _ _ hTW (by omega) 9 (by decide)).mono fun e w2 ⟨⟨y,he,h0,h1⟩,hb⟩=>⟨_,he,hb.mono (by omega),_,rfl,h0,by omega⟩
  case' np22 =>
   go_simp;refine hK _ ?_;clear hK K
  apply relWalkN_rel rfl (fun _ _ h=>RAt.of_below HGB.out h) ?op23 (fun u23 K hK=>?np23)
  case op23 =>
   intro W hC hF;obtain ⟨f,hfn,hI⟩:=hC;obtain ⟨⟨y,rfl,h0,h1⟩,-⟩:=hF;have hw:IntKind.i64.wrap (y-4)=y-4:=IntWalk.i64_in _ (by omega);go_simp;exact ⟨Below.refl _ _,_,rfl,by omega,by omega⟩
  case' np23 =>
   go_simp;refine hK _ ?_;clear hK K
  apply relWalkN_rel rfl (fun _ _ h=>RAt.of_below HGB.out h) ?op24 (fun u24 K hK=>?np24)
  case op24 =>
   intro W hC hF;obtain ⟨f,hfn,hI⟩:=hC;obtain ⟨⟨y,rfl,h0,h1⟩,-⟩:=hF;have hw:IntKind.i64.wrap (y*1800)=y*1800:=IntWalk.i64_in _ (by omega);go_simp;exact ⟨Below.refl _ _,_,rfl,by omega,by omega⟩
  case' np24 =>
   go_simp;refine hK _ ?_;clear hK K
  apply relWalkN_rel rfl (fun _ _ h=>RAt.of_below HGB.out h) ?op25 (fun u25 K hK=>?np25)
  case op25 =>
   intro W hC hF;obtain ⟨f,hfn,hI⟩:=hC;have hL9:=hI.2;go_simp;exact ⟨(Below.refl _ _).alloc (Nat.le_refl _) _,_,rfl,Blk.new' _ _ _ rfl,hL9⟩
  case' np25 =>
   go_simp;refine hK _ ?_;clear hK K
  apply relWalkN_ex rfl (fun _ _ h=>RAt.of_below HGB.out h) ?op26 (fun K hK=>?np26)
  case op26 =>
   intro W hC hF;obtain ⟨f,hfn,hI⟩:=hC;have cf:W.cell? ⟨ba,0,none⟩=some (.func (.func 10) #[] #[.pointer (some ⟨bn,0,none⟩),.pointer (some ⟨w.heap.size,0,none⟩)]):=hI.1.tw.fn.cell_ rfl;go_simp;exact ⟨Below.refl _ _,rfl⟩
  case' np26 =>
   go_simp;refine hK _ ?_;clear hK K
  apply relWalkN_at rfl (G:=AtR 24 bn) (by first|rfl|exact if_neg (by decide)) ?op27 (fun u27 K hK=>?np27)
  case op27 =>
   intro W hC hF;obtain ⟨f,hfn,hI⟩:=hC;have hTW:=hI.1.tw;go_simp;exact (HTO.out.at_ _ _ hTW (by omega) 3 (by decide)).mono fun e w2 ⟨⟨y,he,h0,h1⟩,hb⟩=>⟨_,he,hb.mono (by omega),_,rfl,h0,by omega⟩
  case' np27 =>
   go_simp;refine hK _ ?_;clear hK K
  apply relWalkN_rel rfl (fun _ _ h=>RAt.of_below HGB.out h) ?op28 (fun u28 K hK=>?np28)
  case op28 =>
   intro W hC hF;obtain ⟨f,hfn,hI⟩:=hC;obtain ⟨⟨g,rfl,hb,hl⟩,⟨y,rfl,h0,h1⟩,-⟩:=hF
   rcases (by omega:y=0∨y=1∨y=2) with rfl|rfl|rfl
   ·go_simp
    exact ⟨Below.refl _ _,g,0,rfl,(show (0:Nat)<3 from by decide),hb,hl⟩
   ·go_simp
    exact ⟨Below.refl _ _,g,1,rfl,(show (1:Nat)<3 from by decide),hb,hl⟩
   ·go_simp
    exact ⟨Below.refl _ _,g,2,rfl,(show (2:Nat)<3 from by decide),hb,hl⟩
  case' np28 =>
   go_simp;refine hK _ ?_;clear hK K
  apply relWalkN_rel rfl (fun _ _ h=>RAt.of_below HGB.out h) ?op29 (fun u29 K hK=>?np29)
  case op29 =>
   intro W hC hF;obtain ⟨f,hfn,hI⟩:=hC;obtain ⟨⟨g,i,rfl,hi,hb,hl⟩,-⟩:=hF;have hi9:i<3:=hi;clear hi
   rcases (by omega:i=0∨i=1∨i=2) with rfl|rfl|rfl
   ·have q:=hb.cell_ (i:=0) rfl
    go_simp;exact ⟨Below.refl _ _,[],by simp,rfl⟩
   ·have q:=hb.cell_ (i:=1) rfl
    go_simp;exact ⟨Below.refl _ _,[83],by simp,rfl⟩
   ·have q:=hb.cell_ (i:=2) rfl
    go_simp;exact ⟨Below.refl _ _,[68,68,83,84],by simp,rfl⟩
  case' np29 =>
   go_simp;refine hK _ ?_;clear hK K
  apply relWalkN_rel rfl (fun _ _ h=>RAt.of_below HGB.out h) ?op30 (fun u30 K hK=>?np30)
  case op30 =>
   intro W hC hF;obtain ⟨f,hfn,hI⟩:=hC;obtain ⟨⟨s1,hs1,rfl⟩,⟨tt,rfl,htt⟩,⟨mo,rfl,hm0,hm1⟩,⟨d1,d2,d3,rfl,hd⟩,⟨c1,c2,rfl,hc⟩,⟨sv,rfl,hv0,hv1⟩,⟨s2,hs2,rfl⟩,-⟩:=hF;go_simp;exact ⟨Below.refl _ _,⟨s1,fr,tt,mo,(d1,d2,d3),(c1,c2),sv,s2⟩,rfl,tree_rule hs1 HFR.out htt hm0 hm1 hd hc hv0 hv1 hs2⟩
  case' np30 =>
   go_simp;refine hK _ ?_;clear hK K
  apply relWalkN_rel rfl (fun _ _ h=>RAt.of_below HGB.out h) ?op31 (fun u31 K hK=>?np31)
  case op31 =>
   intro W hC hF;obtain ⟨f,hfn,hI⟩:=hC;obtain ⟨⟨x,rfl,hx⟩,-⟩:=hF;exact relAt_mono (relAt_one rfl irule zrule Tryz.underlying25 hirule hzrule x.cells rfl hszrule hzcrule (show 0<11 by decide) (show 11≤1000 by decide) L hI.2) fun u w9 h=>⟨x,h,hx⟩
  case' np31 =>
   go_simp;refine hK _ ?_;clear hK K
  apply relWalkN_at rfl (G:=(GRule gs Rs (.slice q1 Rs.length d1))) (by first|rfl|exact if_pos rfl) ?op32 (fun u32 K hK=>?np32)
  case op32 =>
   intro W hC hF;obtain ⟨f,hfn,hI⟩:=hC;obtain ⟨⟨x,⟨g1,rfl,hb1,hg1⟩,hx⟩,-⟩:=hF;have hgs:=hI.1.sb.out.lt;refine relAtR_push rfl gs irule zrule 11 Tryz.underlying25 hirule hzrule hszrule hbyrule hzcrule (by decide) (.slice q1 Rs.length d1) Rs.length (flatC RuleP.cells Rs) rfl hI.1.sb.rule g1 1 x.cells rfl hb1 rfl (rule_ones x) (by have:=HNr.out;omega) (by omega) (fun v' w' hown hG=>⟨x,?_,hx⟩)
   show World.ownsRow _ _ _ _ _ _ _
   rw [List.length_append,flatC_snoc];exact hown
  case' np32 =>
   go_simp;refine hK _ ?_;clear hK K
  apply relWalkN_ex rfl (fun _ _ h=>RAt.of_below HGB.out h) ?op33 (fun K hK=>?np33)
  case op33 =>
   intro W hC hF;obtain ⟨f,hfn,hI⟩:=hC;go_simp
   all_goals first|exact ⟨Below.refl _ _,rfl⟩|exact Below.refl _ _
  case' np33 =>
   go_simp;refine hK _ ?_;clear hK K
  apply relWalkT_end
  intro W hC hF hU;obtain ⟨f,hfn,hI⟩:=hC;obtain ⟨⟨x,h9,hx⟩,-⟩:=hF;have HS9:=hid ((hI.1.mono (show _≤k+817 by omega)).srule h9);have s0:=hI.1.sb.out.cell_ (i:=0) rfl;have f0:=hI.1.sb.out.frozen 0;obtain ⟨q9,d9,rfl⟩:=own_form h9;rw [show (Rs++[x]).length=Rs.length+1 from by simp] at HS9
  have HR9:=hid (show ∀y ∈ Rs++[x],RuleRight y from fun y hy=>by
   rcases List.mem_append.1 hy with h|h
   ·exact HR.out y h
   ·rw [List.mem_singleton.1 h];exact hx)
  clear hU hI h9 hx HS2 HLL hL HbL HbG HFR HR HGB;go_wp2_with fail
  go_roundw
  case rel=>exact ⟨j+1,k+817,Rs++[x],_,by omega,by go_num,by omega,hid (by simp [HNr.out]),HR9,HS9⟩
  case measure=>simp [intOf];omega
 ·have hd:decide ((j:Int)<(r5:Int))=false:=by simp;omega
  obtain rfl:j=r5:=by omega
  obtain ⟨q1,d1,rfl⟩:=own_form HS.out.sb.rule;generalize wr=w1 at *;obtain ⟨z4,hz4⟩:∃z4,z % 4=z4:=⟨_,rfl⟩;have hz2:(z:Int) % 4=(z4:Int):=by omega
  have hz3:z4≤3:=by omega
  have c1:w1.cell? ⟨w.heap.size,1,none⟩=some (.int .u8 (z:Int)):=HS.out.tw.tree.cell_ (i:=1) rfl;clear hz4 hlt
  go_upto_region 12 with fail
  simp only [hz2];clear hz2 c1 hd
  go_loopw [67] (fun i wr=>∃(j k:Nat) (cur:List ZV) (zv:Value),j≤z4∧i=.int .i64 (j:Int)∧k≤4000+12000*j∧Hid (cur.length=j)∧Hid (∀q ∈ cur,zoneOk q.1.1=true∧q.1.1.eras.length≤3)∧Hid (MT w (treeC r z l s (.slice p0 bs.length c0)) gr bn ba gs k Rs cur [] [] (.slice q1 Rs.length d1) zv (.slice none 0 0) (.slice none 0 0) wr)) (fun i _=>z4-(intOf i).toNat)
  case atStart=>exact ⟨0,k,[],_,Nat.zero_le _,rfl,by omega,hid rfl,hid (by simp),HS⟩
  case round =>
  clear HS;obtain ⟨jz,kz,cur,zv,hjz,rfl,hkz,HNz,HZ,HS⟩:=hrel
  by_cases hlt:jz<z4
  ·have hd:decide ((jz:Int)<(z4:Int))=true:=by simp;omega
   have HC:=hid (show (wr.alloc (.cells #[.string ⟨#[65]⟩,.string ⟨#[69,117,47,66,45,99]⟩,.string ⟨#[88,47,89,47,122,43,49]⟩] 9)).cell? ⟨wr.heap.size,jz,none⟩=some (.string ⟨(znB jz).toArray⟩) from (Blk.new' wr 9 #[.string ⟨#[65]⟩,.string ⟨#[69,117,47,66,45,99]⟩,.string ⟨#[88,47,89,47,122,43,49]⟩] rfl).cell_ (by rcases (by omega:jz=0∨jz=1∨jz=2) with rfl|rfl|rfl<;>rfl));have hc9:=HC.out;have k0:(0:Int)≤(jz:Int):=by omega
   have kl:(jz:Int)<3:=by omega
   have hgl:=HS.out.sb.out.lt;have HLz:=hid (low_of HS.out.sb.zone);have HLe:=hid (show ∀q ∈ cur,Low wr.heap.size q.1.2 from fun q hq=>low_of (HS.out.sb.eras q hq));have HLr:=hid (low_of HS.out.sb.rule);generalize hnm:znB jz=nm at *;have HNM:=hid (show zoneB nm=true from by rw [←hnm];exact znB_ok jz);clear hnm
   go_upto_region 15 with fail
   have HI0:=hid (show IT w (treeC r z l s (.slice p0 bs.length c0)) gr bn ba gs kz Rs cur (.slice q1 Rs.length d1) zv wr.heap.size (wr.heap.size+1) nm [] (.slice none 0 0) ((wr.alloc (.cells #[.string ⟨#[65]⟩,.string ⟨#[69,117,47,66,45,99]⟩,.string ⟨#[88,47,89,47,122,43,49]⟩] 9)).alloc (.cells #[.string ⟨nm.toArray⟩,.slice none 0 0] 58)) from ⟨(HS.out.below ((Below.refl _ _).alloc (Nat.le_refl _) _)).below ((Below.refl _ _).alloc (Nat.le_refl _) _),Blk.new' _ _ _ (by simp),by omega,World.ownsRow_nil ..,HLr.out,HLz.out,HLe.out,hgl⟩);generalize (wr.alloc (.cells #[.string ⟨#[65]⟩,.string ⟨#[69,117,47,66,45,99]⟩,.string ⟨#[88,47,89,47,122,43,49]⟩] 9)).alloc (.cells #[.string ⟨nm.toArray⟩,.slice none 0 0] 58)=w3 at *;generalize wr.heap.size+1=gz at *;generalize wr.heap.size=LZ at *;have cf:w3.cell? ⟨ba,0,none⟩=some (.func (.func 10) #[] #[.pointer (some ⟨bn,0,none⟩),.pointer (some ⟨w.heap.size,0,none⟩)]):=HI0.out.mt.tw.fn.cell_ rfl;clear HC hc9 HLz HLe HLr hgl k0 kl HS;go_wp2_with fail
   refine (HTO.out.at_ _ _ HI0.out.mt.tw (by omega) 3 (by decide)).mono ?_;rintro e w4 ⟨⟨y,rfl,h0,h1⟩,hat⟩;have HI1:=hid (HI0.out.at_ hat);obtain ⟨N,hN⟩:∃N:Nat,1+y=(N:Int):=⟨(1+y).toNat,by omega⟩;have hN1:1≤N:=by omega
   have hN3:N≤3:=by omega
   have hw:IntKind.i64.wrap (1+y)=(N:Int):=by rw [hN];exact IntWalk.i64_in _ (by omega)
   clear cf hat HI0 h0 h1 hN
   go_upto_region 17 with fail
   clear hw
   go_loopw [79] (fun i wr=>∃(t k:Nat) (es:List EraP) (ev:Value),t≤N∧i=.int .i64 (t:Int)∧k≤4001+12000*jz+3000*t∧Hid (es.length=t)∧Hid (∀e ∈ es,EraRight e)∧Hid (∀(j:Nat) (e:EraP),es[j]? = some e→e.til.is=decide (j+1<N))∧Hid (IT w (treeC r z l s (.slice p0 bs.length c0)) gr bn ba gs k Rs cur (.slice q1 Rs.length d1) zv LZ gz nm es ev wr)) (fun i _=>N-(intOf i).toNat)
   case atStart=>exact ⟨0,kz+1,[],_,Nat.zero_le _,rfl,by omega,hid rfl,hid (by simp),hid (by simp),HI1⟩
   case round =>
    clear HI1;obtain ⟨t,k,es,ev,ht,rfl,hkt,HNe,HE,HT,HS⟩:=hrel
    by_cases hlt2:t<N
    ·have hd2:decide ((t:Int)<(N:Int))=true:=by simp;omega
     have hwt:IntKind.i64.wrap ((t:Int)+1)=(t:Int)+1:=IntWalk.i64_in _ (by omega);obtain ⟨L,hL⟩:∃L,wr.heap.size=L:=⟨_,rfl⟩;have HLL:=hid (show Low L ev from by rw [←hL];exact low_of HS.out.era);have HbL:=hid (show bn<L from by have:=HS.out.bL;have:=HS.out.zge;have:=HS.out.zb.lt;omega);have HzL:=hid (show gz<L∧LZ≤L from by have:=HS.out.zge;have:=HS.out.zb.lt;omega)
     go_upto_region 19 with fail
     have HGB:=hid (show ∀w w2:World,Below w.heap.size w w2→(AtR 24 bn) w w2 from fun w w2 h=>AtR.of_below h);refine wp_region_at 11 [[],[],[1],[2],[],[],[],[4,6],[7],[3,8],[]] [Form.val,Form.rel (IntIn 0 99),Form.rel (IntIn (-50) 49),Form.rel (IntIn (-45350) 44443),Form.rel (TabA L 9 #[.string ⟨#[76,77,84]⟩,.string ⟨#[65,47,66]⟩,.string ⟨#[69,37,115,84]⟩,.string ⟨#[37,122]⟩,.string ⟨#[43,48,53,47,43,48,54]⟩]),Form.val,Form.rel (IntIn 0 4),Form.rel (PtrA L 9 #[.string ⟨#[76,77,84]⟩,.string ⟨#[65,47,66]⟩,.string ⟨#[69,37,115,84]⟩,.string ⟨#[37,122]⟩,.string ⟨#[43,48,53,47,43,48,54]⟩]),Form.rel (StrIn [[76,77,84],[65,47,66],[69,37,115,84],[37,122],[43,48,53,47,43,48,54]]),Form.rel (EraVV),Form.rel (NewEra L)] 1000 24 bn (AtR 24 bn) (fun k W=>IT w (treeC r z l s (.slice p0 bs.length c0)) gr bn ba gs k Rs cur (.slice q1 Rs.length d1) zv LZ gz nm es ev W∧L≤W.heap.size) (k) (by kernel_rfl) (by kernel_rfl) rfl rfl (fun w=>AtR.of_below (Below.refl _ _)) (fun _ _ h=>h.size) (⟨HS.out.below (Below.refl _ _).drew,by rw [←hL];exact Nat.le_refl _⟩) (fun k w1 w2 h ha=>⟨h.1.at_ ha,Nat.le_trans h.2 ha.size⟩) (fun k w1 w2 h ha=>⟨h.1.at_ ha,Nat.le_trans h.2 ha.size⟩) ⟨(still (fun _ _ _ h=>h)),(still (fun _ _ _ h=>h)),(still (fun _ _ _ h=>h)),((TabA.la HbL.out _ _).one),(still (fun _ _ _ h=>h)),((PtrA.la HbL.out _ _).one),(still (fun _ _ _ h=>h)),(still (fun _ _ _ h=>h)),((NewEra.la HbL.out).one),trivial⟩ ?_
     repeat (first|apply exSpec_rel|apply exSpec_new|apply exSpec_val)
     apply relWalkN_ex rfl (fun _ _ h=>RAt.of_below HGB.out h) ?oe0 (fun K hK=>?ne0)
     case oe0 =>
      intro W hC hF;obtain ⟨f,hfn,hI⟩:=hC;have cf:W.cell? ⟨ba,0,none⟩=some (.func (.func 10) #[] #[.pointer (some ⟨bn,0,none⟩),.pointer (some ⟨w.heap.size,0,none⟩)]):=hI.1.mt.tw.fn.cell_ rfl;go_simp;exact ⟨Below.refl _ _,rfl⟩
     case' ne0 =>
      go_simp;refine hK _ ?_;clear hK K
     apply relWalkN_at rfl (G:=AtR 24 bn) (by first|rfl|exact if_neg (by decide)) ?oe1 (fun u1 K hK=>?ne1)
     case oe1 =>
      intro W hC hF;obtain ⟨f,hfn,hI⟩:=hC;have hTW:=hI.1.mt.tw;go_simp;exact (HTO.out.at_ _ _ hTW (by omega) 100 (by decide)).mono fun e w2 ⟨⟨y,he,h0,h1⟩,hb⟩=>⟨_,he,hb.mono (by omega),_,rfl,h0,by omega⟩
     case' ne1 =>
      go_simp;refine hK _ ?_;clear hK K
     apply relWalkN_rel rfl (fun _ _ h=>RAt.of_below HGB.out h) ?oe2 (fun u2 K hK=>?ne2)
     case oe2 =>
      intro W hC hF;obtain ⟨f,hfn,hI⟩:=hC;obtain ⟨⟨y,rfl,h0,h1⟩,-⟩:=hF;have hw:IntKind.i64.wrap (y-50)=y-50:=IntWalk.i64_in _ (by omega);go_simp;exact ⟨Below.refl _ _,_,rfl,by omega,by omega⟩
     case' ne2 =>
      go_simp;refine hK _ ?_;clear hK K
     apply relWalkN_rel rfl (fun _ _ h=>RAt.of_below HGB.out h) ?oe3 (fun u3 K hK=>?ne3)
     case oe3 =>
      intro W hC hF;obtain ⟨f,hfn,hI⟩:=hC;obtain ⟨⟨y,rfl,h0,h1⟩,-⟩:=hF;have hw:IntKind.i64.wrap (y*907)=y*907:=IntWalk.i64_in _ (by omega);go_simp;exact ⟨Below.refl _ _,_,rfl,by omega,by omega⟩
     case' ne3 =>
      go_simp;refine hK _ ?_;clear hK K
     apply relWalkN_rel rfl (fun _ _ h=>RAt.of_below HGB.out h) ?oe4 (fun u4 K hK=>?ne4)
     case oe4 =>
      intro W hC hF;obtain ⟨f,hfn,hI⟩:=hC;have hL9:=hI.2;go_simp;exact ⟨(Below.refl _ _).alloc (Nat.le_refl _) _,_,rfl,Blk.new' _ _ _ rfl,hL9⟩
     case' ne4 =>
      go_simp;refine hK _ ?_;clear hK K
     apply relWalkN_ex rfl (fun _ _ h=>RAt.of_below HGB.out h) ?oe5 (fun K hK=>?ne5)
     case oe5 =>
      intro W hC hF;obtain ⟨f,hfn,hI⟩:=hC;have cf:W.cell? ⟨ba,0,none⟩=some (.func (.func 10) #[] #[.pointer (some ⟨bn,0,none⟩),.pointer (some ⟨w.heap.size,0,none⟩)]):=hI.1.mt.tw.fn.cell_ rfl;go_simp;exact ⟨Below.refl _ _,rfl⟩
     case' ne5 =>
      go_simp;refine hK _ ?_;clear hK K
     apply relWalkN_at rfl (G:=AtR 24 bn) (by first|rfl|exact if_neg (by decide)) ?oe6 (fun u6 K hK=>?ne6)
     case oe6 =>
      intro W hC hF;obtain ⟨f,hfn,hI⟩:=hC;have hTW:=hI.1.mt.tw;go_simp;exact (HTO.out.at_ _ _ hTW (by omega) 5 (by decide)).mono fun e w2 ⟨⟨y,he,h0,h1⟩,hb⟩=>⟨_,he,hb.mono (by omega),_,rfl,h0,by omega⟩
     case' ne6 =>
      go_simp;refine hK _ ?_;clear hK K
     apply relWalkN_rel rfl (fun _ _ h=>RAt.of_below HGB.out h) ?oe7 (fun u7 K hK=>?ne7)
     case oe7 =>
      intro W hC hF;obtain ⟨f,hfn,hI⟩:=hC;obtain ⟨⟨g,rfl,hb,hl⟩,⟨y,rfl,h0,h1⟩,-⟩:=hF
      rcases (by omega:y=0∨y=1∨y=2∨y=3∨y=4) with rfl|rfl|rfl|rfl|rfl
      ·go_simp
       exact ⟨Below.refl _ _,g,0,rfl,(show (0:Nat)<5 from by decide),hb,hl⟩
      ·go_simp
       exact ⟨Below.refl _ _,g,1,rfl,(show (1:Nat)<5 from by decide),hb,hl⟩
      ·go_simp
       exact ⟨Below.refl _ _,g,2,rfl,(show (2:Nat)<5 from by decide),hb,hl⟩
      ·go_simp
       exact ⟨Below.refl _ _,g,3,rfl,(show (3:Nat)<5 from by decide),hb,hl⟩
      ·go_simp
       exact ⟨Below.refl _ _,g,4,rfl,(show (4:Nat)<5 from by decide),hb,hl⟩
     case' ne7 =>
      go_simp;refine hK _ ?_;clear hK K
     apply relWalkN_rel rfl (fun _ _ h=>RAt.of_below HGB.out h) ?oe8 (fun u8 K hK=>?ne8)
     case oe8 =>
      intro W hC hF;obtain ⟨f,hfn,hI⟩:=hC;obtain ⟨⟨g,i,rfl,hi,hb,hl⟩,-⟩:=hF;have hi9:i<5:=hi;clear hi
      rcases (by omega:i=0∨i=1∨i=2∨i=3∨i=4) with rfl|rfl|rfl|rfl|rfl
      ·have q:=hb.cell_ (i:=0) rfl
       go_simp;exact ⟨Below.refl _ _,[76,77,84],by simp,rfl⟩
      ·have q:=hb.cell_ (i:=1) rfl
       go_simp;exact ⟨Below.refl _ _,[65,47,66],by simp,rfl⟩
      ·have q:=hb.cell_ (i:=2) rfl
       go_simp;exact ⟨Below.refl _ _,[69,37,115,84],by simp,rfl⟩
      ·have q:=hb.cell_ (i:=3) rfl
       go_simp;exact ⟨Below.refl _ _,[37,122],by simp,rfl⟩
      ·have q:=hb.cell_ (i:=4) rfl
       go_simp;exact ⟨Below.refl _ _,[43,48,53,47,43,48,54],by simp,rfl⟩
     case' ne8 =>
      go_simp;refine hK _ ?_;clear hK K
     apply relWalkN_rel rfl (fun _ _ h=>RAt.of_below HGB.out h) ?oe9 (fun u9 K hK=>?ne9)
     case oe9 =>
      intro W hC hF;obtain ⟨f,hfn,hI⟩:=hC;obtain ⟨⟨o,rfl,ho0,ho1⟩,⟨f,hf,rfl⟩,-⟩:=hF;go_simp;exact ⟨Below.refl _ _,o,f,rfl,by omega,by omega,tree_fmt hf⟩
     case' ne9 =>
      go_simp;refine hK _ ?_;clear hK K
     apply relWalkN_rel rfl (fun _ _ h=>RAt.of_below HGB.out h) ?oe10 (fun u10 K hK=>?ne10)
     case oe10 =>
      intro W hC hF;obtain ⟨f,hfn,hI⟩:=hC;have hL9:=hI.2;go_simp;exact ⟨(Below.refl _ _).alloc (Nat.le_refl _) _,_,rfl,Blk.new' _ _ _ rfl,hL9⟩
     case' ne10 =>
      go_simp;refine hK _ ?_;clear hK K
     apply relWalkT_end
     intro W hC hF hU;obtain ⟨f,hfn,hI⟩:=hC;obtain ⟨⟨gx,rfl,hxb,hxg⟩,⟨o,f,rfl,ho0,ho1,hf⟩,-⟩:=hF;refine wpList_store_mid rfl 62 (.tmp 13) (.tmp 91) rfl gx 0 (EraP.cells ⟨o,0,0,[],f,UntilP.none⟩) rfl rfl (hxb.there (show 13≤13 from Nat.le_refl _)) (show (Tryz.prog.info? 62).map (·.size)=some 13 from by kernel_rfl) (by simp [EraP.cells,Value.oneCell']) ?_;have HX:=hid (show XT w (treeC r z l s (.slice p0 bs.length c0)) gr bn ba gs (k+24*11) Rs cur (.slice q1 Rs.length d1) zv LZ gz nm es ev L gx ⟨o,0,0,[],f,UntilP.none⟩ (W.setCells gx 0 (EraP.cells ⟨o,0,0,[],f,UntilP.none⟩).toList) from ⟨(hI.1.mono (by omega)).sets HzL.out.1 HzL.out.2 hxg HLL.out _ _,hxb.setAll (EraP.cells ⟨o,0,0,[],f,UntilP.none⟩) rfl,hxg,HzL.out.1,HzL.out.2,HLL.out⟩);generalize W.setCells gx 0 (EraP.cells ⟨o,0,0,[],f,UntilP.none⟩).toList=w5 at *;have HF:=hid (And.intro (And.intro ho0 ho1) hf);have cf:w5.cell? ⟨ba,0,none⟩=some (.func (.func 10) #[] #[.pointer (some ⟨bn,0,none⟩),.pointer (some ⟨w.heap.size,0,none⟩)]):=HX.out.it.mt.tw.fn.cell_ rfl;clear hxb hxg ho0 ho1 hf hI hU hfn HGB HLL HbL HzL hL HS;go_wp2_with fail
     refine (HTO.out.at_ _ _ HX.out.it.mt.tw (by omega) 3 (by decide)).mono ?_;rintro e w6 ⟨⟨y,rfl,h0,h1⟩,hat⟩;have x1:w6.cell? ⟨gx,1,none⟩=some (.int .i64 0):=(HX.out.at_ hat).xb.cell_ (i:=1) rfl;have f1:=(HX.out.at_ hat).xb.frozen 1;have HX1:=hid ((HX.out.at_ hat).set (Y:=⟨o,y,0,[],f,UntilP.none⟩) 1 (.int .i64 y) rfl);clear cf hat HX
     go_upto_block 6 with fail
     generalize w6.setCell ⟨gx,1,none⟩ (.int .i64 y)=w7 at *;clear x1 f1;have x1:w7.cell? ⟨gx,1,none⟩=some (.int .i64 y):=HX1.out.xb.cell_ (i:=1) rfl;have cf:w7.cell? ⟨ba,0,none⟩=some (.func (.func 10) #[] #[.pointer (some ⟨bn,0,none⟩),.pointer (some ⟨w.heap.size,0,none⟩)]):=HX1.out.it.mt.tw.fn.cell_ rfl
     go_cut [] (fun wx=>∃(kd sv:Int) (st:List UInt8),Hid ((kd=0∧sv=0∧st=[])∨(kd=1∧0≤sv∧sv≤604799∧st=[])∨(kd=2∧sv=0∧setB st=true))∧Hid (XT w (treeC r z l s (.slice p0 bs.length c0)) gr bn ba gs (k+24*11+2) Rs cur (.slice q1 Rs.length d1) zv LZ gz nm es ev L gx ⟨o,kd,sv,st,f,UntilP.none⟩ wx))
     case first =>
      rcases (by omega:y=0∨y=1∨y=2) with rfl|rfl|rfl
      ·go_wp2_with fail
       go_meet
       exact ⟨0,0,[],hid (.inl ⟨rfl,rfl,rfl⟩),hid (HX1.out.mono (by omega))⟩
      ·go_wp2_with fail
       refine (HTO.out.at_ _ _ HX1.out.it.mt.tw (by omega) 6 (by decide)).mono ?_;rintro e w8 ⟨⟨uu,rfl,g0,g1⟩,hat⟩;have hw:IntKind.i64.wrap (1+uu)=1+uu:=IntWalk.i64_in _ (by omega);have hw2:IntKind.i64.wrap ((1+uu)*1800)=(1+uu)*1800:=IntWalk.i64_in _ (by omega);have x2:w8.cell? ⟨gx,2,none⟩=some (.int .i64 0):=(HX1.out.at_ hat).xb.cell_ (i:=2) rfl;have f2:=(HX1.out.at_ hat).xb.frozen 2;have HX8:=hid ((HX1.out.at_ hat).set (Y:=⟨o,1,(1+uu)*1800,[],f,UntilP.none⟩) 2 (.int .i64 ((1+uu)*1800)) rfl);clear hat cf x1;go_wp2_with fail
       go_meet
       exact ⟨1,(1+uu)*1800,[],hid (.inr (.inl ⟨rfl,by omega,by omega,rfl⟩)),hid (HX8.out.mono (by omega))⟩
      ·have HA:=hid (HX1.out.below ((Below.refl _ _).alloc (Nat.le_refl w7.heap.size) (.cells #[.string ⟨#[82]⟩,.string ⟨#[79,116,104,101,114]⟩] 9)))
       have HTB:=hid (show Blk (w7.alloc (.cells #[.string ⟨#[82]⟩,.string ⟨#[79,116,104,101,114]⟩] 9)) w7.heap.size 9 #[.string ⟨#[82]⟩,.string ⟨#[79,116,104,101,114]⟩] from Blk.new' _ _ _ rfl);have hbw:bn<w7.heap.size:=by have:=HX1.out.it.mt.sb.out.lt;have:=HX1.out.it.mt.bg;omega
       have cf:(w7.alloc (.cells #[.string ⟨#[82]⟩,.string ⟨#[79,116,104,101,114]⟩] 9)).cell? ⟨ba,0,none⟩=some (.func (.func 10) #[] #[.pointer (some ⟨bn,0,none⟩),.pointer (some ⟨w.heap.size,0,none⟩)]):=HA.out.it.mt.tw.fn.cell_ rfl;go_wp2_with fail
       refine (HTO.out.at_ _ _ HA.out.it.mt.tw (by omega) 2 (by decide)).mono ?_;rintro e w8 ⟨⟨uu,rfl,g0,g1⟩,hat⟩;obtain ⟨j,rfl⟩:∃j:Nat,uu=(j:Int):=⟨uu.toNat,by omega⟩;have hj2:j<2:=by omega
       have hcj:w8.cell? ⟨w7.heap.size,j,none⟩=some (.string ⟨(otB j).toArray⟩):=(hat.blk HTB.out (by omega)).cell_ (by rcases (by omega:j=0∨j=1) with rfl|rfl<;>rfl);have HSB:=hid (otB_ok j);generalize otB j=st at *;have x3:w8.cell? ⟨gx,3,none⟩=some (.string ⟨#[]⟩):=(HA.out.at_ hat).xb.cell_ (i:=3) rfl;have f3:=(HA.out.at_ hat).xb.frozen 3;have HX8:=hid ((HA.out.at_ hat).set (Y:=⟨o,2,0,st,f,UntilP.none⟩) 3 (.string ⟨st.toArray⟩) rfl);clear hat cf x1 HA HTB hbw;go_wp2_with fail
       go_meet
       exact ⟨2,0,st,hid (.inr (.inr ⟨rfl,rfl,HSB.out⟩)),hid (HX8.out.mono (by omega))⟩
     case rest =>
      obtain ⟨kd,sv,st,HKD,HX8⟩:=hcut;generalize wc=w8 at *;clear cf x1 HX1
      go_upto_if 115 with fail
      go_cut [] (fun wx=>∃til:UntilP,Hid (UntilRight til)∧Hid (til.is=decide (t+1<N))∧Hid (XT w (treeC r z l s (.slice p0 bs.length c0)) gr bn ba gs (k+2990) Rs cur (.slice q1 Rs.length d1) zv LZ gz nm es ev L gx ⟨o,kd,sv,st,f,til⟩ wx))
      case first =>
       by_cases hen:t+1<N
       ·have hd3:decide ((t:Int)+1<(N:Int))=true:=by simp;omega
        have hen2:decide (t+1<N)=true:=decide_eq_true hen;have cf:w8.cell? ⟨ba,0,none⟩=some (.func (.func 10) #[] #[.pointer (some ⟨bn,0,none⟩),.pointer (some ⟨w.heap.size,0,none⟩)]):=HX8.out.it.mt.tw.fn.cell_ rfl;go_wp2_with fail
        refine (HTO.out.at_ _ _ HX8.out.it.mt.tw (by omega) 256 (by decide)).mono ?_;rintro e wy ⟨⟨yy,rfl,g0,g1⟩,hat⟩;have hw:IntKind.i64.wrap (1850+yy)=1850+yy:=IntWalk.i64_in _ (by omega);have HYY:=hid (show 1850≤1850+yy∧1850+yy≤2149 from by omega);have x5:wy.cell? ⟨gx,5,none⟩=some (.bool false):=(HX8.out.at_ hat).xb.cell_ (i:=5) rfl;have x6:wy.cell? ⟨gx,6,none⟩=some (.int .i64 0):=(HX8.out.at_ hat).xb.cell_ (i:=6) rfl;have x7:wy.cell? ⟨gx,7,none⟩=some (.int .i64 0):=(HX8.out.at_ hat).xb.cell_ (i:=7) rfl;have x8:wy.cell? ⟨gx,8,none⟩=some (.int .i64 0):=(HX8.out.at_ hat).xb.cell_ (i:=8) rfl;have x9:wy.cell? ⟨gx,9,none⟩=some (.int .i64 0):=(HX8.out.at_ hat).xb.cell_ (i:=9) rfl;have x10:wy.cell? ⟨gx,10,none⟩=some (.int .i64 0):=(HX8.out.at_ hat).xb.cell_ (i:=10) rfl;have x11:wy.cell? ⟨gx,11,none⟩=some (.int .i64 0):=(HX8.out.at_ hat).xb.cell_ (i:=11) rfl;have x12:wy.cell? ⟨gx,12,none⟩=some (.int .i64 0):=(HX8.out.at_ hat).xb.cell_ (i:=12) rfl;have e5:=(HX8.out.at_ hat).xb.frozen 5;have e6:=(HX8.out.at_ hat).xb.frozen 6;have e7:=(HX8.out.at_ hat).xb.frozen 7;have e8:=(HX8.out.at_ hat).xb.frozen 8;have e9:=(HX8.out.at_ hat).xb.frozen 9;have e10:=(HX8.out.at_ hat).xb.frozen 10;have e11:=(HX8.out.at_ hat).xb.frozen 11;have e12:=(HX8.out.at_ hat).xb.frozen 12;have HX2:=hid (show XT w (treeC r z l s (.slice p0 bs.length c0)) gr bn ba gs _ Rs cur (.slice q1 Rs.length d1) zv LZ gz nm es ev L gx ⟨o,kd,sv,st,f,⟨true,(1850+yy),1,(1,0,1),(0,0)⟩⟩ ((((((((wy.setCell ⟨gx,5,none⟩ (.bool true)).setCell ⟨gx,6,none⟩ (.int .i64 (1850+yy))).setCell ⟨gx,7,none⟩ (.int .i64 1)).setCell ⟨gx,8,none⟩ (.int .i64 1)).setCell ⟨gx,9,none⟩ (.int .i64 0)).setCell ⟨gx,10,none⟩ (.int .i64 1)).setCell ⟨gx,11,none⟩ (.int .i64 0)).setCell ⟨gx,12,none⟩ (.int .i64 0)) from (HX8.out.at_ hat).mid [.int .i64 o,.int .i64 kd,.int .i64 sv,.string ⟨st.toArray⟩,.string ⟨f.toArray⟩] [.bool false,.int .i64 0,.int .i64 0,.int .i64 0,.int .i64 0,.int .i64 0,.int .i64 0,.int .i64 0] [.bool true,.int .i64 (1850+yy),.int .i64 1,.int .i64 1,.int .i64 0,.int .i64 1,.int .i64 0,.int .i64 0] [] rfl rfl rfl);clear hat cf
        go_upto_region 28 with fail
        generalize (((((((wy.setCell ⟨gx,5,none⟩ (.bool true)).setCell ⟨gx,6,none⟩ (.int .i64 (1850+yy))).setCell ⟨gx,7,none⟩ (.int .i64 1)).setCell ⟨gx,8,none⟩ (.int .i64 1)).setCell ⟨gx,9,none⟩ (.int .i64 0)).setCell ⟨gx,10,none⟩ (.int .i64 1)).setCell ⟨gx,11,none⟩ (.int .i64 0)).setCell ⟨gx,12,none⟩ (.int .i64 0)=wu at *;clear x5 e5 x6 e6 x7 e7 x8 e8 x9 e9 x10 e10 x11 e11 x12 e12 hw;generalize 1850+yy=yr at *;clear g0 g1;have cf:wu.cell? ⟨ba,0,none⟩=some (.func (.func 10) #[] #[.pointer (some ⟨bn,0,none⟩),.pointer (some ⟨w.heap.size,0,none⟩)]):=HX2.out.it.mt.tw.fn.cell_ rfl;go_wp2_with fail
        refine (HTO.out.at_ _ _ HX2.out.it.mt.tw (by omega) 2 (by decide)).mono ?_;rintro e wv ⟨⟨qq,rfl,g0,g1⟩,hat⟩;have HX3:=hid (HX2.out.at_ hat);clear hat cf HX2
        rcases (by omega:qq=0∨qq=1) with rfl|rfl
        ·go_wp2_with fail
         go_meet
         exact ⟨⟨true,yr,1,(1,0,1),(0,0)⟩,hid (until_made HYY.out (by decide) (by decide) (by decide)),hid hen2.symm,hid (HX3.out.mono (by omega))⟩
        ·have cf:wv.cell? ⟨ba,0,none⟩=some (.func (.func 10) #[] #[.pointer (some ⟨bn,0,none⟩),.pointer (some ⟨w.heap.size,0,none⟩)]):=HX3.out.it.mt.tw.fn.cell_ rfl
         go_wp2_with fail
         refine (HTO.out.at_ _ _ HX3.out.it.mt.tw (by omega) 12 (by decide)).mono ?_;rintro e wm ⟨⟨mm,rfl,g2,g3⟩,hat⟩;have HX4:=hid (HX3.out.at_ hat);have hwm:IntKind.i64.wrap (1+mm)=1+mm:=IntWalk.i64_in _ (by omega);clear hat cf;go_wp2_with fail
         refine (tday_any HX4.out.it.mt.tw HTO.out (by omega)).mono ?_;rintro e wd ⟨⟨u,rfl,⟨e1,e2,e3,rfl,hdd⟩⟩,hat⟩;have HX5:=hid (HX4.out.at_ hat);clear hat HX4;go_wp2_with fail
         refine (tclock_any HX5.out.it.mt.tw HTO.out (by omega)).mono ?_;rintro e wk ⟨⟨u,rfl,⟨p1,p2,rfl,hcc⟩⟩,hat⟩;have HX6:=hid (HX5.out.at_ hat);clear hat HX5;have HM:=hid (show 1≤1+mm∧1+mm≤12 from by omega);have x7:wk.cell? ⟨gx,7,none⟩=some (.int .i64 1):=HX6.out.xb.cell_ (i:=7) rfl;have x8:wk.cell? ⟨gx,8,none⟩=some (.int .i64 1):=HX6.out.xb.cell_ (i:=8) rfl;have x9:wk.cell? ⟨gx,9,none⟩=some (.int .i64 0):=HX6.out.xb.cell_ (i:=9) rfl;have x10:wk.cell? ⟨gx,10,none⟩=some (.int .i64 1):=HX6.out.xb.cell_ (i:=10) rfl;have x11:wk.cell? ⟨gx,11,none⟩=some (.int .i64 0):=HX6.out.xb.cell_ (i:=11) rfl;have x12:wk.cell? ⟨gx,12,none⟩=some (.int .i64 0):=HX6.out.xb.cell_ (i:=12) rfl;have e7_:=HX6.out.xb.frozen 7;have e8_:=HX6.out.xb.frozen 8;have e9_:=HX6.out.xb.frozen 9;have e10_:=HX6.out.xb.frozen 10;have e11_:=HX6.out.xb.frozen 11;have e12_:=HX6.out.xb.frozen 12;have HX7:=hid (show XT w (treeC r z l s (.slice p0 bs.length c0)) gr bn ba gs _ Rs cur (.slice q1 Rs.length d1) zv LZ gz nm es ev L gx ⟨o,kd,sv,st,f,⟨true,yr,(1+mm),(e1,e2,e3),(p1,p2)⟩⟩ ((((((wk.setCell ⟨gx,7,none⟩ (.int .i64 (1+mm))).setCell ⟨gx,8,none⟩ (.int .i64 e1)).setCell ⟨gx,9,none⟩ (.int .i64 e2)).setCell ⟨gx,10,none⟩ (.int .i64 e3)).setCell ⟨gx,11,none⟩ (.int .i64 p1)).setCell ⟨gx,12,none⟩ (.int .i64 p2)) from HX6.out.mid [.int .i64 o,.int .i64 kd,.int .i64 sv,.string ⟨st.toArray⟩,.string ⟨f.toArray⟩,.bool true,.int .i64 yr] [.int .i64 1,.int .i64 1,.int .i64 0,.int .i64 1,.int .i64 0,.int .i64 0] [.int .i64 (1+mm),.int .i64 e1,.int .i64 e2,.int .i64 e3,.int .i64 p1,.int .i64 p2] [] rfl rfl rfl);clear HX6 HX3;go_wp2_with fail
         go_meet
         exact ⟨⟨true,yr,1+mm,(e1,e2,e3),(p1,p2)⟩,hid (until_made HYY.out HM.out hdd hcc),hid hen2.symm,hid (HX7.out.mono (by omega))⟩
       ·have hd3:decide ((t:Int)+1<(N:Int))=false:=by simp;omega
        have hen2:decide (t+1<N)=false:=decide_eq_false hen;go_wp2_with fail
        go_meet
        exact ⟨UntilP.none,hid until_none,hid hen2.symm,hid (HX8.out.mono (by omega))⟩
      case rest =>
       obtain ⟨⟨is,yr,mo,⟨e1,e2,e3⟩,⟨p1,p2⟩⟩,HU,HIS,HX9⟩:=hcut;clear HX8;have HER:=hid (era_kind HF.out.1 HF.out.2 HU.out HKD.out);obtain ⟨q7,d7,rfl⟩:=own_form HX9.out.it.era;have z1:=HX9.out.it.zb.cell_ (i:=1) rfl;have x0:wc.cell? ⟨gx,0,none⟩=some (.int .i64 o):=HX9.out.xb.cell_ (i:=0) rfl;have x1:wc.cell? ⟨gx,1,none⟩=some (.int .i64 kd):=HX9.out.xb.cell_ (i:=1) rfl;have x2:wc.cell? ⟨gx,2,none⟩=some (.int .i64 sv):=HX9.out.xb.cell_ (i:=2) rfl;have x3:wc.cell? ⟨gx,3,none⟩=some (.string ⟨st.toArray⟩):=HX9.out.xb.cell_ (i:=3) rfl;have x4:wc.cell? ⟨gx,4,none⟩=some (.string ⟨f.toArray⟩):=HX9.out.xb.cell_ (i:=4) rfl;have x5:wc.cell? ⟨gx,5,none⟩=some (.bool is):=HX9.out.xb.cell_ (i:=5) rfl;have x6:wc.cell? ⟨gx,6,none⟩=some (.int .i64 yr):=HX9.out.xb.cell_ (i:=6) rfl;have x7:wc.cell? ⟨gx,7,none⟩=some (.int .i64 mo):=HX9.out.xb.cell_ (i:=7) rfl;have x8:wc.cell? ⟨gx,8,none⟩=some (.int .i64 e1):=HX9.out.xb.cell_ (i:=8) rfl;have x9:wc.cell? ⟨gx,9,none⟩=some (.int .i64 e2):=HX9.out.xb.cell_ (i:=9) rfl;have x10:wc.cell? ⟨gx,10,none⟩=some (.int .i64 e3):=HX9.out.xb.cell_ (i:=10) rfl;have x11:wc.cell? ⟨gx,11,none⟩=some (.int .i64 p1):=HX9.out.xb.cell_ (i:=11) rfl;have x12:wc.cell? ⟨gx,12,none⟩=some (.int .i64 p2):=HX9.out.xb.cell_ (i:=12) rfl;have HO:=hid (show wc.ownsRow LZ 62 13 (.slice q7 es.length d7) es.length (flatC EraP.cells es) from HX9.out.it.era);have hszL:LZ≤wc.heap.size:=by have:=HX9.out.it.zge;have:=HX9.out.it.zb.lt;omega
       go_wp2_with (first|(at_builtin;refine wpList_append_any _ rfl (.tmp 139) (.tmp 141) 56 rfl LZ 62 iera zera 13 iera.bytes Tryz.underlying56 hiera hzera hszera rfl hzcera (by decide) _ _ _ rfl (HO.out.alloc _) (wc.heap.size+1) (some ⟨wc.heap.size,0,none⟩) 1 1 [.int .i64 o,.int .i64 kd,.int .i64 sv,.string ⟨st.toArray⟩,.string ⟨f.toArray⟩,.bool is,.int .i64 yr,.int .i64 mo,.int .i64 e1,.int .i64 e2,.int .i64 e3,.int .i64 p1,.int .i64 p2] rfl ?c0 ?c1 ?c2 ?c3 ?c4 ?_)|fail)
       case c0=>exact ⟨rfl,fun _=>⟨_,rfl,by simp,fun j u hu=>by rw [Addr.add_lit,Nat.zero_add];exact (Blk.new' wc 62 #[.int .i64 o,.int .i64 kd,.int .i64 sv,.string ⟨st.toArray⟩,.string ⟨f.toArray⟩,.bool is,.int .i64 yr,.int .i64 mo,.int .i64 e1,.int .i64 e2,.int .i64 e3,.int .i64 p1,.int .i64 p2] rfl).cell_ (by simpa using hu)⟩⟩
       case c1=>exact ⟨rfl,rfl,rfl,rfl,rfl,rfl,rfl,rfl,rfl,rfl,rfl,rfl,rfl⟩
       case c2=>have:=HNe.out;unfold maxLen;omega
       case c3 =>
        have:=HNe.out;have:(es.length+1)*iera.bytes≤4*1000:=Nat.mul_le_mul (by omega) hbyera
        omega
       case c4=>first|omega|(simp;omega)
       intro v2 wb hown hgrow _;have ha:Below wc.heap.size wc (wc.alloc (.cells #[.int .i64 o,.int .i64 kd,.int .i64 sv,.string ⟨st.toArray⟩,.string ⟨f.toArray⟩,.bool is,.int .i64 yr,.int .i64 mo,.int .i64 e1,.int .i64 e2,.int .i64 e3,.int .i64 p1,.int .i64 p2] 62)):=(Below.refl _ _).alloc (Nat.le_refl _) _;have hb9:=blk_grown (HX9.out.it.zb.below ha HX9.out.it.zb.lt) hgrow (OwnR.kept_ HX9.out.it.era ha) (by decide);have HS9:=hid (((HX9.out.it.mono (show _≤k+3000 by omega)).below ha).pera hgrow (x:=⟨o,kd,sv,st,f,⟨is,yr,mo,(e1,e2,e3),(p1,p2)⟩⟩) (u:=v2) (by show World.ownsRow _ _ _ _ _ _ _;rw [List.length_append,flatC_snoc];exact hown));have s1:=hb9.cell_ (i:=1) rfl;have g1:=hb9.frozen 1;have HE9:=hid (all_snoc HE.out HER.out);have HT9:=hid (til_snoc HNe.out HT.out (Y:=⟨o,kd,sv,st,f,⟨is,yr,mo,(e1,e2,e3),(p1,p2)⟩⟩) HIS.out);obtain ⟨q9,d9,rfl⟩:=own_form hown;clear hown hgrow ha hb9 HO hszL HE HT HX9;go_wp2_with fail
       go_roundw
       case rel=>exact ⟨t+1,k+3000,es++[⟨o,kd,sv,st,f,⟨is,yr,mo,(e1,e2,e3),(p1,p2)⟩⟩],_,by omega,by go_num,by omega,hid (by simp [HNe.out]),HE9,HT9,HS9⟩
       case measure=>simp [intOf];omega
    ·obtain rfl:t=N:=by omega
     have hd2:decide ((t:Int)<(t:Int))=false:=by simp
     have HO:=hid (show wr.ownsRow gs 58 2 zv cur.length (flatC encZV cur) from HS.out.mt.sb.zone);obtain ⟨q7,d7,rfl⟩:=own_form HS.out.era;obtain ⟨qz,dz,rfl⟩:=own_form HO.out;have s1:=HS.out.mt.sb.out.cell_ (i:=1) rfl;have z0:=HS.out.zb.cell_ (i:=0) rfl;have z1:=HS.out.zb.cell_ (i:=1) rfl;have hsz:=HS.out.mt.sb.out.lt;go_wp2_with (first|(at_builtin;refine wpList_append_any _ rfl (.tmp 146) (.tmp 148) 26 rfl gs 58 izone zzone 2 izone.bytes Tryz.underlying26 hizone hzzone hszzone rfl hzczone (by decide) _ _ _ rfl (HO.out.alloc _) (wr.heap.size+1) (some ⟨wr.heap.size,0,none⟩) 1 1 [.string ⟨nm.toArray⟩,.slice q7 es.length d7] rfl ?c0 ?c1 ?c2 ?c3 ?c4 ?_)|fail)
     case c0=>exact ⟨rfl,fun _=>⟨_,rfl,by simp,fun j u hu=>by rw [Addr.add_lit,Nat.zero_add];exact (Blk.new' wr _ #[.string ⟨nm.toArray⟩,.slice q7 es.length d7] rfl).cell_ (by simpa using hu)⟩⟩
     case c1=>intro u hu;simp at hu;rcases hu with rfl|rfl<;>rfl
     case c2=>have:=HNz.out;unfold maxLen;omega
     case c3 =>
      have:=HNz.out;have:(cur.length+1)*izone.bytes≤7*1000:=Nat.mul_le_mul (by omega) hbyzone
      omega
     case c4=>simp;omega
     intro v2 wb hown hgrow _;have ha:Below wr.heap.size wr (wr.alloc (.cells #[.string ⟨nm.toArray⟩,.slice q7 es.length d7] 58)):=(Below.refl _ _).alloc (Nat.le_refl _) _;have hLw:gs≤LZ:=Nat.le_of_lt HS.out.le;have hxe:=own_mono (World.ownsRow.kept (OwnR.kept_ HS.out.era ha) hgrow (own_apart (OwnR.kept_ HS.out.era ha) (OwnR.kept_ HS.out.mt.sb.zone ha) (by decide))) hLw;have hb9:=blk_grown (HS.out.mt.sb.out.below ha HS.out.mt.sb.out.lt) hgrow (OwnR.kept_ HS.out.mt.sb.zone ha) (by decide);have HS9:=hid ((HS.out.mt.below ha).pzone hgrow (x:=⟨(⟨nm,es⟩,.slice q7 es.length d7),q7,d7,rfl⟩) (u:=v2) (by show World.ownsRow _ _ _ _ _ _ _;rw [List.length_append,flatC_snoc];exact hown) hxe);have HZ9:=hid (all_snoc (p:=fun q:ZV=>zoneOk q.1.1=true∧q.1.1.eras.length≤3) (x:=⟨(⟨nm,es⟩,.slice q7 es.length d7),q7,d7,rfl⟩) HZ.out ⟨tree_zone HNM.out HNe.out (by omega) HE.out HT.out,by show es.length≤3;have:=HNe.out;omega⟩);have s1:=hb9.cell_ (i:=1) rfl;have f1:=hb9.frozen 1;obtain ⟨q9,d9,rfl⟩:=own_form hown;clear hown hgrow ha hxe hb9 HS HO z0 z1 hsz HE HT HZ;go_wp2_with fail
     go_roundw
     case rel=>exact ⟨jz+1,k,cur++[⟨(⟨nm,es⟩,.slice q7 es.length d7),q7,d7,rfl⟩],_,by omega,by go_num,by omega,hid (by simp [HNz.out]),HZ9,HS9⟩
     case measure=>simp [intOf];omega
  ·have hd:decide ((jz:Int)<(z4:Int))=false:=by simp;omega
   obtain rfl:jz=z4:=by omega
   obtain ⟨qz,dz,rfl⟩:=own_form HS.out.sb.zone;generalize wr=w2 at *;obtain ⟨l4,hl4⟩:∃l4,l % 4=l4:=⟨_,rfl⟩;have hl2:(l:Int) % 4=(l4:Int):=by omega
   have hl3:l4≤3:=by omega
   have c2:w2.cell? ⟨w.heap.size,2,none⟩=some (.int .u8 (l:Int)):=HS.out.tw.tree.cell_ (i:=2) rfl;clear hl4 hlt
   go_upto_region 35 with fail
   simp only [hl2];clear hl2 c2 hd
   go_loopw [156] (fun i wr=>∃(j k:Nat) (Ls:List LinkP) (v3:Value),j≤l4∧i=.int .i64 (j:Int)∧k≤50000+1000*j∧Hid (Ls.length=j)∧Hid (∀x ∈ Ls,linkOk x=true)∧Hid (MT w (treeC r z l s (.slice p0 bs.length c0)) gr bn ba gs k Rs cur Ls [] (.slice q1 Rs.length d1) (.slice qz cur.length dz) v3 (.slice none 0 0) wr)) (fun i _=>l4-(intOf i).toNat)
   case atStart=>exact ⟨0,kz,[],_,Nat.zero_le _,rfl,by omega,hid rfl,hid (by simp),HS⟩
   case round =>
   clear HS;obtain ⟨j,kl,Ls,v3,hj,rfl,hkl,HNl,HLK,HS⟩:=hrel
   by_cases hlt:j<l4
   ·have hd:decide ((j:Int)<(l4:Int))=true:=by simp;omega
    obtain ⟨L,hL⟩:∃L,wr.heap.size=L:=⟨_,rfl⟩;have HLL:=hid (show Low L v3 from by rw [←hL];exact low_of HS.out.sb.link);have HbL:=hid (show bn<L from by have:=HS.out.bg;have:=HS.out.sb.out.lt;omega);have HbG:=hid HS.out.bg;have hj2:j≤2:=by omega
    obtain ⟨bt,hbt⟩:∃bt,UInt8.ofNat (97+(j:Int)).toNat=bt:=⟨_,rfl⟩;have HLO:=hid (tree_link j hj2 hbt);have HBT:=hid hbt;clear hbt;have hw97:IntKind.i64.wrap (97+(j:Int))=97+(j:Int):=IntWalk.i64_in _ (by omega);have hw8:IntKind.u8.wrap (97+(j:Int))=97+(j:Int):=IntWalk.u8_in _ (by omega);obtain ⟨q3,d3,rfl⟩:=own_form HS.out.sb.link
    go_upto_region 37 with fail
    have HGB:=hid (show ∀w w2:World,Below w.heap.size w w2→(GLink gs Ls (.slice q3 Ls.length d3)) w w2 from fun w w2 h=>GOwn.of_below _ _ h);refine wp_region_at 17 [[],[],[],[],[],[2,4],[5],[],[],[],[],[10],[11],[6,12],[13],[14],[]] [Form.val,Form.val,Form.rel (TabA L 9 #[.string ⟨#[65]⟩,.string ⟨#[69,117,47,66,45,99]⟩]),Form.val,Form.rel (IntIn 0 1),Form.rel (PtrA L 9 #[.string ⟨#[65]⟩,.string ⟨#[69,117,47,66,45,99]⟩]),Form.rel (StrIn [[65],[69,117,47,66,45,99]]),Form.val,Form.val,Form.val,Form.rel (TabA L 5 #[.int .u8 (97+(j:Int))]),Form.rel (StrIs [bt]),Form.rel (StrIs [76,47,bt]),Form.rel (LinkVV),Form.rel (LinkOne L),Form.rel (LinkRow gs Ls),Form.val] 15 24 bn (GLink gs Ls (.slice q3 Ls.length d3)) (fun k W=>MT w (treeC r z l s (.slice p0 bs.length c0)) gr bn ba gs k Rs cur Ls [] (.slice q1 Rs.length d1) (.slice qz cur.length dz) (.slice q3 Ls.length d3) (.slice none 0 0) W∧L≤W.heap.size) (kl) (by kernel_rfl) (by kernel_rfl) rfl rfl (fun w=>GOwn.of_below _ _ (Below.refl _ _)) (fun _ _ h=>h.1.size) (⟨HS.out.below (Below.refl _ _).drew,by rw [←hL];exact Nat.le_refl _⟩) (fun k w1 w2 h ha=>⟨h.1.at_ ha,Nat.le_trans h.2 ha.size⟩) (fun k w1 w2 h hg=>⟨(h.1.glink hg).mono (by omega),Nat.le_trans h.2 hg.1.size⟩) ⟨(TabA.g HbL.out HLL.out _ _),(still (fun _ _ _ h=>h)),(PtrA.g HbL.out HLL.out _ _),(still (fun _ _ _ h=>h)),(TabA.g HbL.out HLL.out _ _),(still (fun _ _ _ h=>h)),(still (fun _ _ _ h=>h)),(still (fun _ _ _ h=>h)),(LinkOne.g HbL.out HLL.out),(LinkRow.w HbG.out),trivial⟩ ?_
    repeat (first|apply exSpec_rel|apply exSpec_new|apply exSpec_val)
    apply relWalkN_ex rfl (fun _ _ h=>RAt.of_below HGB.out h) ?ol0 (fun K hK=>?nl0)
    case ol0 =>
     intro W hC hF;obtain ⟨f,hfn,hI⟩:=hC;go_simp
     all_goals first|exact ⟨Below.refl _ _,rfl⟩|exact Below.refl _ _
    case' nl0 =>
     go_simp;refine hK _ ?_;clear hK K
    apply relWalkN_ex rfl (fun _ _ h=>RAt.of_below HGB.out h) ?ol1 (fun K hK=>?nl1)
    case ol1 =>
     intro W hC hF;obtain ⟨f,hfn,hI⟩:=hC;have s0:=hI.1.sb.out.cell_ (i:=2) rfl;go_simp;exact ⟨Below.refl _ _,rfl⟩
    case' nl1 =>
     go_simp;refine hK _ ?_;clear hK K
    apply relWalkN_rel rfl (fun _ _ h=>RAt.of_below HGB.out h) ?ol2 (fun u2 K hK=>?nl2)
    case ol2 =>
     intro W hC hF;obtain ⟨f,hfn,hI⟩:=hC;have hL9:=hI.2;go_simp;exact ⟨(Below.refl _ _).alloc (Nat.le_refl _) _,_,rfl,Blk.new' _ _ _ rfl,hL9⟩
    case' nl2 =>
     go_simp;refine hK _ ?_;clear hK K
    apply relWalkN_ex rfl (fun _ _ h=>RAt.of_below HGB.out h) ?ol3 (fun K hK=>?nl3)
    case ol3 =>
     intro W hC hF;obtain ⟨f,hfn,hI⟩:=hC;have cf:W.cell? ⟨ba,0,none⟩=some (.func (.func 10) #[] #[.pointer (some ⟨bn,0,none⟩),.pointer (some ⟨w.heap.size,0,none⟩)]):=hI.1.tw.fn.cell_ rfl;go_simp;exact ⟨Below.refl _ _,rfl⟩
    case' nl3 =>
     go_simp;refine hK _ ?_;clear hK K
    apply relWalkN_at rfl (G:=AtR 24 bn) (by first|rfl|exact if_neg (by decide)) ?ol4 (fun u4 K hK=>?nl4)
    case ol4 =>
     intro W hC hF;obtain ⟨f,hfn,hI⟩:=hC;have hTW:=hI.1.tw;go_simp;exact (HTO.out.at_ _ _ hTW (by omega) 2 (by decide)).mono fun e w2 ⟨⟨y,he,h0,h1⟩,hb⟩=>⟨_,he,hb.mono (by omega),_,rfl,h0,by omega⟩
    case' nl4 =>
     go_simp;refine hK _ ?_;clear hK K
    apply relWalkN_rel rfl (fun _ _ h=>RAt.of_below HGB.out h) ?ol5 (fun u5 K hK=>?nl5)
    case ol5 =>
     intro W hC hF;obtain ⟨f,hfn,hI⟩:=hC;obtain ⟨⟨g,rfl,hb,hl⟩,⟨y,rfl,h0,h1⟩,-⟩:=hF
     rcases (by omega:y=0∨y=1) with rfl|rfl
     ·go_simp
      exact ⟨Below.refl _ _,g,0,rfl,(show (0:Nat)<2 from by decide),hb,hl⟩
     ·go_simp
      exact ⟨Below.refl _ _,g,1,rfl,(show (1:Nat)<2 from by decide),hb,hl⟩
    case' nl5 =>
     go_simp;refine hK _ ?_;clear hK K
    apply relWalkN_rel rfl (fun _ _ h=>RAt.of_below HGB.out h) ?ol6 (fun u6 K hK=>?nl6)
    case ol6 =>
     intro W hC hF;obtain ⟨f,hfn,hI⟩:=hC;obtain ⟨⟨g,i,rfl,hi,hb,hl⟩,-⟩:=hF;have hi9:i<2:=hi;clear hi
     rcases (by omega:i=0∨i=1) with rfl|rfl
     ·have q:=hb.cell_ (i:=0) rfl
      go_simp;exact ⟨Below.refl _ _,[65],by simp,rfl⟩
     ·have q:=hb.cell_ (i:=1) rfl
      go_simp;exact ⟨Below.refl _ _,[69,117,47,66,45,99],by simp,rfl⟩
    case' nl6 =>
     go_simp;refine hK _ ?_;clear hK K
    apply relWalkN_ex rfl (fun _ _ h=>RAt.of_below HGB.out h) ?ol7 (fun K hK=>?nl7)
    case ol7 =>
     intro W hC hF;obtain ⟨f,hfn,hI⟩:=hC;go_simp
     all_goals first|exact ⟨Below.refl _ _,rfl⟩|exact Below.refl _ _
    case' nl7 =>
     go_simp;refine hK _ ?_;clear hK K
    apply relWalkN_ex rfl (fun _ _ h=>RAt.of_below HGB.out h) ?ol8 (fun K hK=>?nl8)
    case ol8 =>
     intro W hC hF;obtain ⟨f,hfn,hI⟩:=hC;go_simp
     all_goals first|exact ⟨Below.refl _ _,rfl⟩|exact Below.refl _ _
    case' nl8 =>
     go_simp;refine hK _ ?_;clear hK K
    apply relWalkN_ex rfl (fun _ _ h=>RAt.of_below HGB.out h) ?ol9 (fun K hK=>?nl9)
    case ol9 =>
     intro W hC hF;obtain ⟨f,hfn,hI⟩:=hC;go_simp
     all_goals first|exact ⟨Below.refl _ _,rfl⟩|exact Below.refl _ _
    case' nl9 =>
     go_simp;refine hK _ ?_;clear hK K
    apply relWalkN_rel rfl (fun _ _ h=>RAt.of_below HGB.out h) ?ol10 (fun u10 K hK=>?nl10)
    case ol10 =>
     intro W hC hF;obtain ⟨f,hfn,hI⟩:=hC;have hL9:=hI.2;go_simp;exact ⟨(Below.refl _ _).alloc (Nat.le_refl _) _,_,rfl,Blk.new' _ _ _ rfl,hL9⟩
    case' nl10 =>
     go_simp;refine hK _ ?_;clear hK K
    apply relWalkN_rel rfl (fun _ _ h=>RAt.of_below HGB.out h) ?ol11 (fun u11 K hK=>?nl11)
    case ol11 =>
     intro W hC hF;obtain ⟨f,hfn,hI⟩:=hC;obtain ⟨⟨g,rfl,hb,hl⟩,-⟩:=hF;exact relAt_mono (relAt_bytes1 rfl Tryz.underlying22 Tryz.underlying5 Tryz.underlying9 g 1 (97+(j:Int)) rfl (hb.cell_ (i:=0) rfl)) fun u w9 h=>(by rw [h,HBT.out];rfl)
    case' nl11 =>
     go_simp;refine hK _ ?_;clear hK K
    apply relWalkN_rel rfl (fun _ _ h=>RAt.of_below HGB.out h) ?ol12 (fun u12 K hK=>?nl12)
    case ol12 =>
     intro W hC hF;obtain ⟨f,hfn,hI⟩:=hC;obtain ⟨rfl,-⟩:=hF;go_simp;exact ⟨Below.refl _ _,rfl⟩
    case' nl12 =>
     go_simp;refine hK _ ?_;clear hK K
    apply relWalkN_rel rfl (fun _ _ h=>RAt.of_below HGB.out h) ?ol13 (fun u13 K hK=>?nl13)
    case ol13 =>
     intro W hC hF;obtain ⟨f,hfn,hI⟩:=hC;obtain ⟨⟨s1,hs1,rfl⟩,rfl,-⟩:=hF;go_simp;exact ⟨Below.refl _ _,⟨s1,_⟩,rfl,HLO.out s1 hs1⟩
    case' nl13 =>
     go_simp;refine hK _ ?_;clear hK K
    apply relWalkN_rel rfl (fun _ _ h=>RAt.of_below HGB.out h) ?ol14 (fun u14 K hK=>?nl14)
    case ol14 =>
     intro W hC hF;obtain ⟨f,hfn,hI⟩:=hC;obtain ⟨⟨x,rfl,hx⟩,-⟩:=hF;exact relAt_mono (relAt_one rfl ilink zlink Tryz.underlying27 hilink hzlink x.cells rfl hszlink hzclink (show 0<2 by decide) (show 2≤1000 by decide) L hI.2) fun u w9 h=>⟨x,h,hx⟩
    case' nl14 =>
     go_simp;refine hK _ ?_;clear hK K
    apply relWalkN_at rfl (G:=(GLink gs Ls (.slice q3 Ls.length d3))) (by first|rfl|exact if_pos rfl) ?ol15 (fun u15 K hK=>?nl15)
    case ol15 =>
     intro W hC hF;obtain ⟨f,hfn,hI⟩:=hC;obtain ⟨⟨x,⟨g1,rfl,hb1,hg1⟩,hx⟩,-⟩:=hF;have hgs:=hI.1.sb.out.lt;refine relAtR_push rfl gs ilink zlink 2 Tryz.underlying27 hilink hzlink hszlink hbylink hzclink (by decide) (.slice q3 Ls.length d3) Ls.length (flatC LinkP.cells Ls) rfl hI.1.sb.link g1 1 x.cells rfl hb1 rfl (by simp [LinkP.cells,Value.oneCell']) (by have:=HNl.out;omega) (by omega) (fun v' w' hown hG=>⟨x,?_,hx⟩)
     show World.ownsRow _ _ _ _ _ _ _
     rw [List.length_append,flatC_snoc];exact hown
    case' nl15 =>
     go_simp;refine hK _ ?_;clear hK K
    apply relWalkN_ex rfl (fun _ _ h=>RAt.of_below HGB.out h) ?ol16 (fun K hK=>?nl16)
    case ol16 =>
     intro W hC hF;obtain ⟨f,hfn,hI⟩:=hC;go_simp
     all_goals first|exact ⟨Below.refl _ _,rfl⟩|exact Below.refl _ _
    case' nl16 =>
     go_simp;refine hK _ ?_;clear hK K
    apply relWalkT_end
    intro W hC hF hU;obtain ⟨f,hfn,hI⟩:=hC;obtain ⟨⟨x,h9,hx⟩,-⟩:=hF;have HS9:=hid ((hI.1.mono (show _≤kl+408 by omega)).slink h9);have s2:=hI.1.sb.out.cell_ (i:=2) rfl;have f2:=hI.1.sb.out.frozen 2;obtain ⟨q9,d9,rfl⟩:=own_form h9;rw [show (Ls++[x]).length=Ls.length+1 from by simp] at HS9;have HL9:=hid (all_snoc HLK.out hx);clear hU hI h9 hx HLL hL HbL HbG HGB HS HLK hw97 hw8;go_wp2_with fail
    go_roundw
    case rel=>exact ⟨j+1,kl+408,Ls++[x],_,by omega,by go_num,by omega,hid (by simp [HNl.out]),HL9,HS9⟩
    case measure=>simp [intOf];omega
   ·have hd:decide ((j:Int)<(l4:Int))=false:=by simp;omega
    obtain rfl:j=l4:=by omega
    obtain ⟨q3,d3,rfl⟩:=own_form HS.out.sb.link;generalize wr=w3 at *;obtain ⟨s4,hs4⟩:∃s4,s % 3=s4:=⟨_,rfl⟩;have hs2:(s:Int) % 3=(s4:Int):=by omega
    have hs3:s4≤2:=by omega
    have c3:w3.cell? ⟨w.heap.size,3,none⟩=some (.int .u8 (s:Int)):=HS.out.tw.tree.cell_ (i:=3) rfl;clear hs4 hlt
    go_upto_region 40 with fail
    simp only [hs2];clear hs2 c3 hd
    go_loopw [181] (fun i wr=>∃(j k:Nat) (Ss:List (List UInt8)) (v4:Value),j≤s4∧i=.int .i64 (j:Int)∧k≤60000+1000*j∧Hid (Ss.length=j)∧Hid (∀x ∈ Ss,setB x=true)∧Hid (MT w (treeC r z l s (.slice p0 bs.length c0)) gr bn ba gs k Rs cur Ls Ss (.slice q1 Rs.length d1) (.slice qz cur.length dz) (.slice q3 Ls.length d3) v4 wr)) (fun i _=>s4-(intOf i).toNat)
    case atStart=>exact ⟨0,kl,[],_,Nat.zero_le _,rfl,by omega,hid rfl,hid (by simp),HS⟩
    case round =>
    clear HS;obtain ⟨j',ks,Ss,v4,hj',rfl,hks,HNs,HSK,HS⟩:=hrel
    by_cases hlt:j'<s4
    ·have hd:decide ((j':Int)<(s4:Int))=true:=by simp;omega
     obtain ⟨L,hL⟩:∃L,wr.heap.size=L:=⟨_,rfl⟩;have HLL:=hid (show Low L v4 from by rw [←hL];exact low_of HS.out.sb.str);have HbL:=hid (show bn<L from by have:=HS.out.bg;have:=HS.out.sb.out.lt;omega);have HbG:=hid HS.out.bg;have j0:(0:Int)≤(j':Int):=by omega
     have j1:(j':Int)<2:=by omega
     have j2:j'<2:=by omega
     obtain ⟨q4,d4,rfl⟩:=own_form HS.out.sb.str
     go_upto_region 42 with fail
     have HGB:=hid (show ∀w w2:World,Below w.heap.size w w2→(GStr gs Ss (.slice q4 Ss.length d4)) w w2 from fun w w2 h=>GOwn.of_below _ _ h);refine wp_region_at 9 [[],[],[],[],[2],[4],[5],[6],[]] [Form.val,Form.val,Form.rel (TabA L 9 #[.string ⟨#[82]⟩,.string ⟨#[69,117,45,120]⟩]),Form.val,Form.rel (PtrA L 9 #[.string ⟨#[82]⟩,.string ⟨#[69,117,45,120]⟩]),Form.rel (StrIn [[82],[69,117,45,120]]),Form.rel (StrOn L [[82],[69,117,45,120]]),Form.rel (StrRw gs Ss [[82],[69,117,45,120]]),Form.val] 7 24 bn (GStr gs Ss (.slice q4 Ss.length d4)) (fun k W=>MT w (treeC r z l s (.slice p0 bs.length c0)) gr bn ba gs k Rs cur Ls Ss (.slice q1 Rs.length d1) (.slice qz cur.length dz) (.slice q3 Ls.length d3) (.slice q4 Ss.length d4) W∧L≤W.heap.size) (ks) (by kernel_rfl) (by kernel_rfl) rfl rfl (fun w=>GOwn.of_below _ _ (Below.refl _ _)) (fun _ _ h=>h.1.size) (⟨HS.out.below (Below.refl _ _).drew,by rw [←hL];exact Nat.le_refl _⟩) (fun k w1 w2 h ha=>⟨h.1.at_ ha,Nat.le_trans h.2 ha.size⟩) (fun k w1 w2 h hg=>⟨(h.1.gstr hg).mono (by omega),Nat.le_trans h.2 hg.1.size⟩) ⟨(TabA.g HbL.out HLL.out _ _),(PtrA.g HbL.out HLL.out _ _),(still (fun _ _ _ h=>h)),(StrOn.g HbL.out HLL.out),(StrRw.w HbG.out),trivial⟩ ?_
     repeat (first|apply exSpec_rel|apply exSpec_new|apply exSpec_val)
     apply relWalkN_ex rfl (fun _ _ h=>RAt.of_below HGB.out h) ?os0 (fun K hK=>?ns0)
     case os0 =>
      intro W hC hF;obtain ⟨f,hfn,hI⟩:=hC;go_simp
      all_goals first|exact ⟨Below.refl _ _,rfl⟩|exact Below.refl _ _
     case' ns0 =>
      go_simp;refine hK _ ?_;clear hK K
     apply relWalkN_ex rfl (fun _ _ h=>RAt.of_below HGB.out h) ?os1 (fun K hK=>?ns1)
     case os1 =>
      intro W hC hF;obtain ⟨f,hfn,hI⟩:=hC;have s0:=hI.1.sb.out.cell_ (i:=3) rfl;go_simp;exact ⟨Below.refl _ _,rfl⟩
     case' ns1 =>
      go_simp;refine hK _ ?_;clear hK K
     apply relWalkN_rel rfl (fun _ _ h=>RAt.of_below HGB.out h) ?os2 (fun u2 K hK=>?ns2)
     case os2 =>
      intro W hC hF;obtain ⟨f,hfn,hI⟩:=hC;have hL9:=hI.2;go_simp;exact ⟨(Below.refl _ _).alloc (Nat.le_refl _) _,_,rfl,Blk.new' _ _ _ rfl,hL9⟩
     case' ns2 =>
      go_simp;refine hK _ ?_;clear hK K
     apply relWalkN_ex rfl (fun _ _ h=>RAt.of_below HGB.out h) ?os3 (fun K hK=>?ns3)
     case os3 =>
      intro W hC hF;obtain ⟨f,hfn,hI⟩:=hC;go_simp
      all_goals first|exact ⟨Below.refl _ _,rfl⟩|exact Below.refl _ _
     case' ns3 =>
      go_simp;refine hK _ ?_;clear hK K
     apply relWalkN_rel rfl (fun _ _ h=>RAt.of_below HGB.out h) ?os4 (fun u4 K hK=>?ns4)
     case os4 =>
      intro W hC hF;obtain ⟨f,hfn,hI⟩:=hC;obtain ⟨⟨g,rfl,hb,hl⟩,-⟩:=hF;go_simp;exact ⟨Below.refl _ _,g,j',rfl,j2,hb,hl⟩
     case' ns4 =>
      go_simp;refine hK _ ?_;clear hK K
     apply relWalkN_rel rfl (fun _ _ h=>RAt.of_below HGB.out h) ?os5 (fun u5 K hK=>?ns5)
     case os5 =>
      intro W hC hF;obtain ⟨f,hfn,hI⟩:=hC;obtain ⟨⟨g,i,rfl,hi,hb,hl⟩,-⟩:=hF;have hi9:i<2:=hi;clear hi
      rcases (by omega:i=0∨i=1) with rfl|rfl
      ·have q:=hb.cell_ (i:=0) rfl
       go_simp;exact ⟨Below.refl _ _,[82],by simp,rfl⟩
      ·have q:=hb.cell_ (i:=1) rfl
       go_simp;exact ⟨Below.refl _ _,[69,117,45,120],by simp,rfl⟩
     case' ns5 =>
      go_simp;refine hK _ ?_;clear hK K
     apply relWalkN_rel rfl (fun _ _ h=>RAt.of_below HGB.out h) ?os6 (fun u6 K hK=>?ns6)
     case os6 =>
      intro W hC hF;obtain ⟨f,hfn,hI⟩:=hC;obtain ⟨⟨s1,hs1,rfl⟩,-⟩:=hF;have hL9:=hI.2;go_simp;exact ⟨(Below.refl _ _).alloc (Nat.le_refl _) _,s1,⟨_,rfl,Blk.new' _ _ _ rfl,hL9⟩,hs1⟩
     case' ns6 =>
      go_simp;refine hK _ ?_;clear hK K
     apply relWalkN_at rfl (G:=(GStr gs Ss (.slice q4 Ss.length d4))) (by first|rfl|exact if_pos rfl) ?os7 (fun u7 K hK=>?ns7)
     case os7 =>
      intro W hC hF;obtain ⟨f,hfn,hI⟩:=hC;obtain ⟨⟨x,⟨g1,rfl,hb1,hg1⟩,hx⟩,-⟩:=hF;have hgs:=hI.1.sb.out.lt;refine relAtR_push rfl gs istr zstr 1 Tryz.underlying28 histr hzstr hszstr hbystr hzcstr (by decide) (.slice q4 Ss.length d4) Ss.length (flatC encS Ss) rfl hI.1.sb.str g1 1 (encS x) rfl hb1 rfl (by simp [encS,Value.oneCell']) (by have:=HNs.out;omega) (by omega) (fun v' w' hown hG=>⟨x,?_,hx⟩)
      show World.ownsRow _ _ _ _ _ _ _
      rw [List.length_append,flatC_snoc];exact hown
     case' ns7 =>
      go_simp;refine hK _ ?_;clear hK K
     apply relWalkN_ex rfl (fun _ _ h=>RAt.of_below HGB.out h) ?os8 (fun K hK=>?ns8)
     case os8 =>
      intro W hC hF;obtain ⟨f,hfn,hI⟩:=hC;go_simp
      all_goals first|exact ⟨Below.refl _ _,rfl⟩|exact Below.refl _ _
     case' ns8 =>
      go_simp;refine hK _ ?_;clear hK K
     apply relWalkT_end
     intro W hC hF hU;obtain ⟨f,hfn,hI⟩:=hC;obtain ⟨⟨x,h9,hx⟩,-⟩:=hF;have HS9:=hid ((hI.1.mono (show _≤ks+216 by omega)).sstr h9);have s3:=hI.1.sb.out.cell_ (i:=3) rfl;have f3:=hI.1.sb.out.frozen 3;obtain ⟨q9,d9,rfl⟩:=own_form h9;rw [show (Ss++[x]).length=Ss.length+1 from by simp] at HS9;have HL9:=hid (all_snoc HSK.out (show setB x=true from tree_set hx));clear hU hI h9 hx HLL hL HbL HbG HGB HS HSK;go_wp2_with fail
     go_roundw
     case rel=>exact ⟨j'+1,ks+216,Ss++[x],_,by omega,by go_num,by omega,hid (by simp [HNs.out]),HL9,HS9⟩
     case measure=>simp [intOf];omega
    ·have hd:decide ((j':Int)<(s4:Int))=false:=by simp;omega
     obtain rfl:j'=s4:=by omega
     obtain ⟨q4,d4,rfl⟩:=own_form HS.out.sb.str;have s0_:=HS.out.sb.out.cell_ (i:=0) rfl;have t0_:=HS.out.res.cell_ (i:=0) rfl;have f0_:=HS.out.res.frozen 0;have s1_:=HS.out.sb.out.cell_ (i:=1) rfl;have t1_:=HS.out.res.cell_ (i:=1) rfl;have f1_:=HS.out.res.frozen 1;have s2_:=HS.out.sb.out.cell_ (i:=2) rfl;have t2_:=HS.out.res.cell_ (i:=2) rfl;have f2_:=HS.out.res.frozen 2;have s3_:=HS.out.sb.out.cell_ (i:=3) rfl;have t3_:=HS.out.res.cell_ (i:=3) rfl;have f3_:=HS.out.res.frozen 3;go_wp2_with fail
     have hle:=HS.out.le;have htl:=HS.out.tw.le;have hT:55≠30∧58≠30∧64≠30∧9≠30∧62≠30:=by decide
     have hg:gs≠gr:=by omega
     have r0:=HS.out.res;have r1:=r0.set_ 0 (.slice q1 Rs.length d1);have r2:=r1.set_ 1 (.slice qz cur.length dz);have r3:=r2.set_ 2 (.slice q3 Ls.length d3);have bF:=r3.set_ 3 (.slice q4 Ss.length d4);have sF:=((((HS.out.sb.far r0 hT hg (j:=0) (.slice q1 Rs.length d1)).far r1 hT hg (j:=1) (.slice qz cur.length dz)).far r2 hT hg (j:=2) (.slice q3 Ls.length d3)).far r3 hT hg (j:=3) (.slice q4 Ss.length d4)).src;have hge1:w.heap.size≤gr:=by omega
     refine bodyPost_ret (results_cell_row rfl _ _ gr 30 #[.slice q1 Rs.length d1,.slice qz cur.length dz,.slice q3 Ls.length d3,.slice q4 Ss.length d4] (0,0) _ rfl bF Tryz.underlying30 rfl (by kernel_rfl)) rfl ⟨⟨⟨Rs,cur.map (fun q:ZV=>q.1.1),Ls,Ss⟩,_,_,_,_,cur,rfl,rfl,⟨fun x hx=>(ruleOk_iff x).2 (HR.out x hx),fun x hx=>?_,HLK.out,HSK.out⟩,by show Rs.length≤4;have:=HNr.out;omega,by show (cur.map _).length≤3;rw [List.length_map];have:=HNz.out;omega,fun x hx=>?_,by show Ls.length≤3;have:=HNl.out;omega,by show Ss.length≤2;have:=HNs.out;omega,sF⟩,(((HS.out.tw.bel.setCell hge1 _).setCell hge1 _).setCell hge1 _).setCell hge1 _⟩
     ·obtain ⟨q,hq,rfl⟩:=List.mem_map.1 hx
      exact (HZ.out q hq).1
     ·obtain ⟨q,hq,rfl⟩:=List.mem_map.1 hx
      exact (HZ.out q hq).2
end Go.Proofs.YtboagmbmmoomiaaGreatDoor
