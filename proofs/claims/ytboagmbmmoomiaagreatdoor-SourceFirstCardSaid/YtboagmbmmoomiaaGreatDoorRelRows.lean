/-
  Rel's law (RelAll) for a drawn region one of whose operations may write an older block (an append in place): that operation is held to a relation of its own.
  Appends in drawn regions: what an append yields there, and what it leaves as it was.
  Drawn regions with several appends onto rows that the region itself makes.
  Rows of the call's own, many at once: each is owned, no two of one element type share a block; what an append, a store, a new row make of them.
  Drawn regions with two appends onto rows of the call's own that lie apart.
  A drawn region in which one operation, a store (the gate), may come ahead of some values: what holds of the world ahead of the gate and behind it is said apart (out of RelG's law).
-/
import Derived.Test.YtboagmbmmoomiaaGreatDoorRelAll
import Derived.Test.YtboagmbmmoomiaaGreatDoorDayAll
import Derived.Maps.AppendAt
set_option linter.unusedVariables false
set_option linter.unusedSimpArgs false
set_option maxRecDepth 100000
set_option maxHeartbeats 4000000
namespace Go.Proofs.YtboagmbmmoomiaaGreatDoor
open Go.RowKit
def BelowR (w w':World):Prop:=Below w.heap.size w w'
def relUponR (R:World→World→Prop) (P:Program) (w:World) (p:Value→World→Prop):Result Next→Prop
 | .ok (.value u) w'=>R w w'∧p u w'
 | .ok .skip w'=>R w w'∧p undef w'
 | .ok (.enter f args) w'=>Calls P f args w' fun e w''=>∃u,e=.returned u∧R w w''∧p u w''
 | _=>False
def relAtR (R:World→World→Prop) (P:Program) (o:Oper) (a:Act) (w:World) (p:Value→World→Prop):Prop:=relUponR R P w p ((execOp a.eval o).run P w)
def relOpR (R:World→World→Prop) (P:Program) (ops:Array Oper) (o:Oper) (a:Act) (w:World) (p:Value→World→Prop):Prop :=
 if Region.wanted o (yielded ops a.tmps) then relAtR R P o a w p else p undef w
theorem relOpR_of {R:World→World→Prop} (hR:∀w w',Below w.heap.size w w'→R w w') {P:Program} {ops:Array Oper} {o:Oper} {a:Act} {w:World} {p:Value→World→Prop} (h:relOp P ops o a w p):relOpR R P ops o a w p:=by
 unfold relOp at h;unfold relOpR
 split
 ·rename_i hw
  rw [if_pos hw] at h;unfold relAt at h;unfold relAtR;generalize (execOp a.eval o).run P w=r at *
  cases r with
  | ok n w' =>
   cases n<;>simp only [relUpon] at h<;>simp only [relUponR]
   case value u=>exact ⟨hR _ _ h.1,h.2⟩
   case skip=>exact ⟨hR _ _ h.1,h.2⟩
   case enter f args=>exact h.mono fun e w'' ⟨u,he,hb,hp⟩=>⟨u,he,hR _ _ hb,hp⟩
  | halt x w'=>simp only [relUpon] at h
 ·rename_i hw
  rwa [if_neg hw] at h
theorem wpOp_of_relR {R:World→World→Prop} (hr:∀w,R w w) {P:Program} {ops:Array Oper} {i:Nat} {o:Oper} {a:Act} {w:World} {p:Value→World→Prop} {K:Act→World→Prop} {Q:Exit→Act→World→Prop} (hi:ops[i]? = some o) (h:relOpR R P ops o a w p)
 (hK:∀u w',R w w'→p u w'→K (a.put o.dst u) w'):wpOp P ops Q i K a w:=by
 unfold wpOp;simp only [hi];unfold relOpR at h
 split
 ·rename_i hw
  rw [if_pos hw] at h;refine .inl ?_;unfold Oper.wp;unfold relAtR at h;generalize (execOp a.eval o).run P w=r at *
  cases r with
  | ok n w' =>
   cases n<;>simp only [relUponR] at h<;>simp only [Oper.upon]
   case value u=>exact hK _ _ h.1 h.2
   case skip=>exact hK _ _ h.1 h.2
   case enter f args=>exact h.mono fun e w'' ⟨u,he,hb,hp⟩=>by subst he;exact hK _ _ hb hp
  | halt x w'=>simp only [relUponR] at h
 ·rename_i hw
  rw [if_neg hw] at h;exact hK _ _ (hr _) h
def relWalkR (P:Program) (ops:Array Oper) (C:World→Prop) (fin:Act→World→Prop) (R:Nat→World→World→Prop):List Oper→List (Spec × List Nat)→Nat→Facts→List Value→Act→Prop
 | [],_,_,Γ,U,a=>∀w,C w→factsAll Γ w→U.Pairwise (fun u v=>blkOf u≠blkOf v)→fin a w
 | _::_,[],_,_,_,_=>False
 | o::l,(.ex v,ds)::ss,k,Γ,U,a=>(∀w,C w→factsOf Γ ds w→relOpR (R k) P ops o a w fun u _=>u=v)∧relWalkR P ops C fin R l ss (k+1) Γ U (a.put o.dst v)
 | o::l,(.rel p,ds)::ss,k,Γ,U,a=>(∀w,C w→factsOf Γ ds w→relOpR (R k) P ops o a w p)∧∀u,relWalkR P ops C fin R l ss (k+1) ((k,p u)::Γ) U (a.put o.dst u)
 | o::l,(.new p,ds)::ss,k,Γ,U,a=>(∀w,C w→factsOf Γ ds w→relOpR (R k) P ops o a w fun u w'=>p u w'∧Fresh w u w')∧∀u,relWalkR P ops C fin R l ss (k+1) ((k,p u)::Γ) (u::U) (a.put o.dst u)
section
variable {P:Program} {ops:Array Oper} {C:World→Prop} {fin:Act→World→Prop} {specs:List (Spec × List Nat)} {R:Nat→World→World→Prop}
theorem walk_stepsR {us:Nat→Value} {a:Act} (hE:Exact specs us):∀(l:List Oper) (ss:List (Spec × List Nat)) (k:Nat) (Γ:Facts) (U:List Value),relWalkR P ops C fin R l ss k Γ U (lexF ops us a k)→ss=specs.drop k→(∀j,j<l.length→l[j]? = ops[k+j]?)→GOk specs us Γ→UOk specs us k U →
 (∀i o,k≤i→i<k+l.length→ops[i]? = some o→∃s ds,specs[i]? = some (s,ds)∧∀w,C w→(∀j ∈ ds,FactAt specs us j w)→relOpR (R i) P ops o (lexF ops us a i) w (s.want w))∧(∀w,C w→(∀j,FactAt specs us j w)→News specs us→fin (lexF ops us a (k+l.length)) w)
 | [],ss,k,Γ,U,h,_,_,hG,hU=>⟨fun i o h1 h2=>absurd h2 (by simp only [List.length_nil];omega),fun w hw hf hn=>h w hw (factsAll_of hf hG) (hU.2 hn)⟩
 | o::l,[],k,Γ,U,h,_,_,_,_=>h.elim
 | o::l,(s,ds)::ss,k,Γ,U,h,hss,hl,hG,hU=>by
  have h0:ops[k]? = some o:=by simpa using (hl 0 (by simp)).symm
  have hs0:specs[k]? = some (s,ds):=by have:=congrArg (fun x=>x[0]?) hss;simpa using this.symm
  have hss':ss=specs.drop (k+1):=by have:=congrArg List.tail hss;simpa using this
  have hl':∀j,j<l.length→l[j]? = ops[k+1+j]?:=fun j hj=>by have:=hl (j+1) (by simp;omega);simpa [Nat.add_assoc,Nat.add_comm 1 j] using this
  have hx:lexF ops us a (k+1)=(lexF ops us a k).put o.dst (us k):=by simp only [lexF,h0]
  have hU1:UOk specs us (k+1) U:=⟨fun u hu=>by obtain ⟨j,h1,h2⟩:=hU.1 u hu;exact ⟨j,by omega,h2⟩,hU.2⟩
  have key:(∀w,C w→factsOf Γ ds w→relOpR (R k) P ops o (lexF ops us a k) w (s.want w))∧∃Γ' U',GOk specs us Γ'∧UOk specs us (k+1) U'∧relWalkR P ops C fin R l ss (k+1) Γ' U' (lexF ops us a (k+1)):=by
   cases s with
   | ex v =>
    have hv:=hE k v ds hs0;refine ⟨h.1,Γ,U,hG,hU1,?_⟩;rw [hx,hv];exact h.2
   | rel p =>
    refine ⟨h.1,(k,p (us k))::Γ,U,fun j x hx w hw=>?_,hU1,?_⟩
    ·rcases List.mem_cons.1 hx with hx|hx
     ·cases hx;exact hw _ _ hs0
     ·exact hG j x hx w hw
    ·rw [hx];exact h.2 _
   | new p =>
    refine ⟨h.1,(k,p (us k))::Γ,us k::U,fun j x hx w hw=>?_,⟨fun u hu=>?_,fun hn=>List.pairwise_cons.2 ⟨fun u hu=>?_,hU.2 hn⟩⟩,?_⟩
    ·rcases List.mem_cons.1 hx with hx|hx
     ·cases hx;exact hw _ _ hs0
     ·exact hG j x hx w hw
    ·rcases List.mem_cons.1 hu with hu|hu
     ·exact ⟨k,by omega,⟨p,ds,hs0⟩,hu⟩
     ·exact hU1.1 u hu
    ·obtain ⟨j,h1,h2,h3⟩:=hU.1 u hu
     rw [h3];exact hn k j (by omega) ⟨p,ds,hs0⟩ h2
    ·rw [hx];exact h.2 _
  obtain ⟨hstep,Γ',U',hG',hU',hrest⟩:=key;obtain ⟨h1,h2⟩:=walk_stepsR hE l ss (k+1) Γ' U' hrest hss' hl' hG' hU';refine ⟨fun i o' hk hi ho=>?_,fun w hw hf hn=>by have:=h2 w hw hf hn;rwa [show k+1+l.length=k+(o::l).length by simp;omega] at this⟩
  by_cases hik:i=k
  ·subst hik
   have:o'=o:=Option.some.inj (ho.symm.trans h0);subst this;exact ⟨s,ds,hs0,fun w hw hf=>hstep w hw (factsOf_of hG ds hf)⟩
  ·exact h1 i o' (by omega) (by simp only [List.length_cons] at hi;omega) ho
theorem relOpR_congr {Q:World→World→Prop} {o:Oper} (hsel:∀cs b,o.op≠.select cs b) {a b:Act} (h:∀t ∈ o.looksAt ops,a.tmps[t]? = b.tmps[t]?) {w:World} {p:Value→World→Prop} (hr:relOpR Q P ops o a w p):relOpR Q P ops o b w p:=by
 have he:execOp a.eval o=execOp b.eval o:=execOp_congr o hsel fun x hx=>by
  cases x with
  | tmp t =>
   have:=h t (List.mem_append_left _ (List.mem_filterMap.2 ⟨.tmp t,by simpa using hx,rfl⟩));simp only [Act.eval,Array.getD_eq_getD_getElem?,this]
  | _=>rfl
 have hw:Region.wanted o (yielded ops a.tmps)=Region.wanted o (yielded ops b.tmps):=by
  unfold Region.wanted
  cases hg:o.guard with
  | none=>rfl
  | some gw =>
   obtain ⟨g,want⟩:=gw
   have hy:yielded ops a.tmps g=yielded ops b.tmps g:=by
    unfold yielded
    cases ht:(ops[g]?).bind (·.dst) with
    | none=>rfl
    | some t =>
     have:=h t (by simp [Oper.looksAt,hg,ht]);simp only [Option.bind_some,this]
   simp only [hy]
 unfold relOpR relAtR at *;rwa [←he,←hw]
theorem rel_anyR {n:Nat} {ds:List (List Nat)} {Q:Exit→Act→World→Prop} {a0:Act} {tl:List Oper} (hR:RelOk ops n ds) (hlen:specs.length=n) (hds:∀(i:Nat) s dl,specs[i]? = some (s,dl)→ds[i]? = some dl)
 (hrf:∀i w,R i w w) (hsz:∀i w w',R i w w'→w.heap.size≤w'.heap.size) (hlast:∀(i j:Nat) s dl,i<n→i≠j→Region.waitsFor .any ops j i=false→specs[j]? = some (s,dl)→∀u w w',R i w w'→s.ok u w→s.ok u w') (hC:∀i w w',C w→R i w w'→C w') (htl:∀j,tl[j]? = ops[n+j]?) (htn:tl.length=ops.size-n)
 (hstep:∀us,Exact specs us→(∀(i:Nat) o,i<n→ops[i]? = some o→∃s dl,specs[i]? = some (s,dl)∧∀w,C w→(∀j ∈ dl,FactAt specs us j w)→relOpR (R i) P ops o (lexF ops us a0 i) w (s.want w))∧(∀w,C w→(∀j,FactAt specs us j w)→News specs us→wpList P ops Q tl (lexF ops us a0 n) w)) :
 ∀(f:Nat) (listed:Array Bool) (a:Act) (w:World) (us:Nat→Value),rlCnt listed n=f→HeadInv .any ops n listed→C w→Exact specs us→(∀j,j<n→listed.getD j true=true→FactAt specs us j w)→(∀j,j<n→listed.getD j true=true→IsNew specs j→∃g,blkOf (us j)=some g∧g<w.heap.size)→(∀i j,i<n→j<n→listed.getD i true=true→listed.getD j true=true→i≠j→IsNew specs i→IsNew specs j→blkOf (us i)≠blkOf (us j))→FrIs ops n us (fun j=>listed.getD j true) a0 a→wpAny P .any ops Q (f+(ops.size-n)) listed a w:=by
 intro f
 induction f with
 | zero =>
  intro listed a w us hc inv hw hE hf hN hP hfr;have hall:=rlCnt_zero n hc
  have hl:listed=Array.ofFn (n:=ops.size) fun i=>decide (i.val<n):=by
   apply Array.ext (by simp [inv.size])
   intro t h1 h2;simp only [Array.getElem_ofFn]
   by_cases ht:t<n
   ·have:=hall t ht
    rw [show listed.getD t true=listed[t] by simp [h1]] at this;rw [this];simp [ht]
   ·have:=inv.tail t (by omega) (by rw [←inv.size];exact h1)
    rw [show listed.getD t true=listed[t] by simp [h1]] at this;rw [this];simp [ht]
  have ha:a=lexF ops us a0 n:=hfr.same ((lexF_is hR.apart hR.le us a0 n (Nat.le_refl _)).congr (fun _ _ _=>rfl) fun j hj=>by rw [hall j hj];simp [hj])
  have hfa:∀j,FactAt specs us j w:=fun j=>by
   by_cases hj:j<n
   ·exact hf j hj (hall j hj)
   ·intro s dl hs
    rw [List.getElem?_eq_none (by omega)] at hs
    cases hs
  have hlt:∀j,IsNew specs j→j<n:=fun j ⟨p,ds',hj⟩=>by
   rw [←hlen];exact (List.getElem?_eq_some_iff.1 hj).1
  have:=(hstep us hE).2 w hw hfa fun i j hij hi hj=>hP i j (hlt i hi) (hlt j hj) (hall i (hlt i hi)) (hall j (hlt j hj)) hij hi hj
  rw [←ha] at this;rw [Nat.zero_add,←htn];exact wpAny_of_seq tl n listed a w htl (by rw [htn,hl];exact hR.seq) this
 | succ f ih =>
  intro listed a w us hc inv hw hE hf hN hP hfr;rw [show f+1+(ops.size-n)=(f+(ops.size-n))+1 by omega];obtain ⟨k,hk,hku,hkl⟩:=rlCnt_least n (show rlCnt listed n≠0 by omega)
  have hkr:k ∈ Region.ready .any ops listed:=by
   obtain ⟨o,ho⟩:∃o,ops[k]? = some o:=⟨_,Array.getElem?_eq_getElem (by have:=hR.le;omega)⟩;refine mem_ready.2 ⟨hku,o,ho,fun e he hb=>?_⟩;have h1:=hR.before k o hk ho e he hb;rw [getD_of_in (by rw [inv.size];have:=hR.le;omega) false true];exact hkl _ h1
  refine ⟨fun h0=>(by rw [h0] at hkr;cases hkr),fun i hi=>?_⟩;obtain ⟨hiu,o,ho,hall⟩:=mem_ready.1 hi
  have hin:i<n:=by
   rcases Nat.lt_or_ge i n with h|h
   ·exact h
   ·rcases hR.tail with ht|⟨hs,hch⟩
    ·have:=(Array.getElem?_eq_some_iff.1 ho).1;omega
    ·by_cases hns:n<ops.size
     ·exact absurd hi (tail_waits hs hch hns inv _ k rfl hk hku i h)
     ·have:=(Array.getElem?_eq_some_iff.1 ho).1;omega
  obtain ⟨s,dl,hs,hst⟩:=(hstep us hE).1 i o hin ho
  have hfd:∀j ∈ dl,FactAt specs us j w:=fun j hj=>by
   have h1:=waits_listed ho hall (hR.deps i dl hin (hds i s dl hs) j hj)
   by_cases hjn:j<n
   ·exact hf j hjn (by rw [getD_of_in (by rw [inv.size];have:=hR.le;omega) true false];exact h1)
   ·intro s' dl' hs'
    rw [List.getElem?_eq_none (by omega)] at hs'
    cases hs'
  have hop:=hst w hw hfd;have hfl:=lexF_is hR.apart hR.le us a0 i (by omega)
  have hop':relOpR (R i) P ops o a w (s.want w):=relOpR_congr (fun cs b=>hR.sel i o cs b ho) (fun t ht=>by
   by_cases hx:∃(j:Nat) (oj:Oper),j<n∧ops[j]? = some oj∧oj.dst=some t
   ·obtain ⟨j,oj,hj,hoj,hd⟩:=hx
    obtain ⟨h1,h2⟩:=hR.looks i j o oj t hin hj ho hoj hd ht;have h3:=waits_listed ho hall h2;have h4:listed.getD j true=true:=by rw [getD_of_in (by rw [inv.size];have:=hR.le;omega) true false];exact h3
    by_cases hts:t<a0.tmps.size
    ·rw [hfl.done j oj t hj hoj hd (by simpa using h1) hts,hfr.done j oj t hj hoj hd h4 hts]
    ·rw [show (lexF ops us a0 i).tmps[t]? = none from Array.getElem?_eq_none (by rw [hfl.size];exact Nat.le_of_not_lt hts),show a.tmps[t]? = none from Array.getElem?_eq_none (by rw [hfr.size];exact Nat.le_of_not_lt hts)]
   ·rw [hfl.out t fun j oj hj hoj _ hd=>hx ⟨j,oj,hj,hoj,hd⟩,hfr.out t fun j oj hj hoj _ hd=>hx ⟨j,oj,hj,hoj,hd⟩]) hop
  refine wpOp_of_relR (hrf i) ho hop' fun u w' hb hp=>?_
  have hE':Exact specs (rlUpd us i u):=fun j v dl' hj=>by
   by_cases hji:j=i
   ·subst hji
    rw [hs] at hj
    cases hj
    rw [rlUpd_same];exact hp
   ·rw [rlUpd_ne hji];exact hE j v dl' hj
  refine ih (listed.setIfInBounds i true) (a.put o.dst u) w' (rlUpd us i u) (by have:=rlCnt_set hiu n hin;omega) (inv.set hi hin) (hC i w w' hw hb) hE' (fun j hj hl=>?_) (fun j hj hl hn=>?_) (fun j k hj hk hlj hlk hjk hnj hnk=>?_) (hfr.put hR.apart hin ho u fun j hj=>?_)
  ·intro s' dl' hs'
   by_cases hji:j=i
   ·subst hji
    rw [hs] at hs'
    cases hs'
    rw [rlUpd_same];exact Spec.want_ok hp
   ·rw [rlUpd_ne hji]
    rw [getD_set_ne true (fun h=>hji h.symm)] at hl;refine hlast i j s' dl' hin (fun h=>hji h.symm) ?_ hs' _ _ _ hb (hf j hj hl s' dl' hs')
    cases hwf:Region.waitsFor .any ops j i with
    | false=>rfl
    | true =>
     exfalso
     obtain ⟨oj,hoj⟩:∃o,ops[j]? = some o:=⟨_,Array.getElem?_eq_getElem (by have:=hR.le;omega)⟩;have h1:=waits_listed hoj (inv.closed j oj hoj (by rw [getD_of_in (by rw [inv.size];have:=hR.le;omega) false true];exact hl)) hwf;rw [getD_both hiu] at h1
     cases h1
  ·by_cases hji:j=i
   ·subst hji
    obtain ⟨p,ds',hj'⟩:=hn;rw [hs] at hj'
    cases hj'
    obtain ⟨g,h1,h2,h3⟩:=(show p u w'∧Fresh w u w' from hp).2;exact ⟨g,by rw [rlUpd_same];exact h1,h3⟩
   ·rw [rlUpd_ne hji]
    rw [getD_set_ne true (fun h=>hji h.symm)] at hl;obtain ⟨g,h1,h2⟩:=hN j hj hl hn;exact ⟨g,h1,Nat.lt_of_lt_of_le h2 (hsz _ _ _ hb)⟩
  ·have hold:∀m,m<n→(listed.setIfInBounds i true).getD m true=true→m≠i→IsNew specs m→∃g,blkOf (us m)=some g∧g<w.heap.size:=fun m hm hl hmi hn=>by
    rw [getD_set_ne true (fun h=>hmi h.symm)] at hl;exact hN m hm hl hn
   have hnew:IsNew specs i→∃g,blkOf u=some g∧w.heap.size≤g:=fun ⟨p,ds',hj'⟩=>by
    rw [hs] at hj'
    cases hj'
    obtain ⟨g,h1,h2,h3⟩:=(show p u w'∧Fresh w u w' from hp).2;exact ⟨g,h1,h2⟩
   by_cases hji:j=i
   ·subst hji
    have hki:k≠j:=fun h=>hjk h.symm
    rw [rlUpd_same,rlUpd_ne hki];obtain ⟨g,h1,h2⟩:=hnew hnj;obtain ⟨g',h3,h4⟩:=hold k hk hlk hki hnk;rw [h1,h3];intro h;cases h;omega
   ·by_cases hki:k=i
    ·subst hki
     rw [rlUpd_same,rlUpd_ne hji];obtain ⟨g,h1,h2⟩:=hnew hnk;obtain ⟨g',h3,h4⟩:=hold j hj hlj hji hnj;rw [h1,h3];intro h;cases h;omega
    ·rw [rlUpd_ne hji,rlUpd_ne hki]
     rw [getD_set_ne true (fun h=>hji h.symm)] at hlj;rw [getD_set_ne true (fun h=>hki h.symm)] at hlk;exact hP j k hj hk hlj hlk hjk hnj hnk
  ·by_cases hji:j=i
   ·subst hji;rw [getD_set_self];simp
   ·rw [getD_set_ne true (fun h=>hji h.symm),beq_eq_false_iff_ne.2 hji,Bool.or_false]
theorem wp_region_relR {id:Nat} {Q:Exit→Act→World→Prop} {a:Act} {w:World} {l:List Oper} (n:Nat) (ds:List (List Nat)) (ss:List Spec) (C:World→Prop) (hm:P.follows .mixedOrders=true) (hB:relB l.toArray n ds=true) (hn:ds.length=n) (hs:ss.length=n)
 (hC0:C w.drew) (R:Nat→World→World→Prop) (hrf:∀i w,R i w w) (hsz:∀i w w',R i w w'→w.heap.size≤w'.heap.size) (hlast:∀(i j:Nat) s dl,i<n→i≠j→Region.waitsFor .any l.toArray j i=false→(ss.zip ds)[j]? = some (s,dl)→∀u w w',R i w w'→s.ok u w→s.ok u w') (hC:∀i w w',C w→R i w w'→C w')
 (h:relWalkR P l.toArray C (fun a' w'=>wpList P l.toArray Q (l.drop n) a' w') R (l.take n) (ss.zip ds) 0 [] [] a):(Code.region id l.toArray true).wp P Q a w:=by
 have hR:=relOk_of hB;have hnl:n≤l.length:=by simpa using hR.le
 refine wp_region_any hm ?_
 have key:=rel_anyR (P:=P) (C:=C) (R:=R) (specs:=ss.zip ds) (Q:=Q) (a0:=a) (tl:=l.drop n) hR (by simp [hn,hs]) (fun i s dl hi=>by rw [List.getElem?_zip_eq_some] at hi;exact hi.2) hrf hsz hlast hC (fun j=>by simp) (by simp)
  (fun us hE=>by
   have:=walk_stepsR (P:=P) (ops:=l.toArray) (C:=C) hE (l.take n) (ss.zip ds) 0 [] [] h (by simp) (fun j hj=>by simp only [List.length_take] at hj;simp [List.getElem?_take];omega) (fun j x hx=>by cases hx) ⟨fun u hu=>(by cases hu),fun _=>List.Pairwise.nil⟩;simp only [Nat.zero_add,List.length_take,Nat.min_eq_left hnl] at this;exact ⟨fun i o hi ho=>this.1 i o (Nat.zero_le _) hi ho,this.2⟩)
 have hc0:∀m,m≤l.toArray.size→rlCnt (Array.replicate l.toArray.size false) m=m:=by
  intro m
  induction m with
  | zero=>intro _;rfl
  | succ m ih =>
   intro hm';simp only [rlCnt,ih (by omega)];rw [show (Array.replicate l.toArray.size false).getD m true=false from getD_in (by simp at hm' ⊢;omega) (getD_replicate_false _ _)]
   simp
 have hsz2:n+(l.toArray.size-n)=l.toArray.size:=by have:=hR.le;omega
 have h2:=key n (Array.replicate l.toArray.size false) a { w with drawn:=w.drawn+1 } (fun j=>match (ss.zip ds)[j]? with
  | some (.ex v,_)=>v
  | _=>undef) (hc0 n hR.le) ⟨by simp,fun j oj _ hl=>(by rw [getD_replicate_false] at hl;cases hl),fun t _ ht=>getD_in (by simpa using ht) (getD_replicate_false _ _)⟩ hC0
  (fun j v dl hj=>by simp only [hj]) (fun j hj hl=>by rw [show (Array.replicate l.toArray.size false).getD j true=false from getD_in (by simp at hnl ⊢;omega) (getD_replicate_false _ _)] at hl;cases hl)
  (fun j hj hl=>by rw [show (Array.replicate l.toArray.size false).getD j true=false from getD_in (by simp at hnl ⊢;omega) (getD_replicate_false _ _)] at hl;cases hl)
  (fun i j hi hj hl=>by rw [show (Array.replicate l.toArray.size false).getD i true=false from getD_in (by simp at hnl ⊢;omega) (getD_replicate_false _ _)] at hl;cases hl)
  ⟨rfl,rfl,fun j o d hj ho hd hl=>(by rw [show (Array.replicate l.toArray.size false).getD j true=false from getD_in (by simp at hnl ⊢;omega) (getD_replicate_false _ _)] at hl;cases hl),fun t ht=>rfl⟩
 rw [hsz2] at h2;exact h2
end
def RG (G:World→World→Prop) (m:Nat):Nat→World→World→Prop:=fun k=>if k=m then G else BelowR
def LastsG (G:World→World→Prop) (p:Value→World→Prop):Prop:=∀u w w',G w w'→p u w→p u w'
def formLastG (G:World→World→Prop) (m:Nat):Nat→List Form→Prop
 | _,[]=>True
 | k,.val::l=>formLastG G m (k+1) l
 | k,.rel p::l=>(if k=m then Lasts p else LastsG G p)∧formLastG G m (k+1) l
 | k,.new p::l=>(if k=m then Lasts p else LastsG G p)∧formLastG G m (k+1) l
def specLastG (G:World→World→Prop) (m k:Nat) (s:Spec):Prop :=
 match s with
 | .ex _=>True
 | .rel p=>if k=m then Lasts p else LastsG G p
 | .new p=>if k=m then Lasts p else LastsG G p
theorem exSpecs_ofG {G:World→World→Prop} {m:Nat} : ∀(l:List Form) (K:List Spec→Prop) (k:Nat),formLastG G m k l→ExSpecs l K→∃ss,ss.length=l.length∧(∀(j:Nat) s,ss[j]? = some s→specLastG G m (k+j) s)∧K ss
 | [],K,_,_,h=>⟨[],rfl,fun j s h=>by simp at h,h⟩
 | .val::l,K,k,hl,⟨v,h⟩=>by
  obtain ⟨ss,h1,h2,h3⟩:=exSpecs_ofG l _ (k+1) hl h;refine ⟨.ex v::ss,by simp [h1],fun j s hj=>?_,h3⟩
  cases j with
  | zero=>simp at hj;subst hj;exact trivial
  | succ j=>have:=h2 j s (by simpa using hj);rwa [show k+1+j=k+(j+1) by omega] at this
 | .rel p::l,K,k,hl,h=>by
  obtain ⟨ss,h1,h2,h3⟩:=exSpecs_ofG l _ (k+1) hl.2 h;refine ⟨.rel p::ss,by simp [h1],fun j s hj=>?_,h3⟩
  cases j with
  | zero=>simp at hj;subst hj;exact hl.1
  | succ j=>have:=h2 j s (by simpa using hj);rwa [show k+1+j=k+(j+1) by omega] at this
 | .new p::l,K,k,hl,h=>by
  obtain ⟨ss,h1,h2,h3⟩:=exSpecs_ofG l _ (k+1) hl.2 h;refine ⟨.new p::ss,by simp [h1],fun j s hj=>?_,h3⟩
  cases j with
  | zero=>simp at hj;subst hj;exact hl.1
  | succ j=>have:=h2 j s (by simpa using hj);rwa [show k+1+j=k+(j+1) by omega] at this
theorem specLastG_ok {G:World→World→Prop} (hG:∀w w',Below w.heap.size w w'→G w w') {m i j:Nat} {s:Spec} (h:specLastG G m j s) (hij:i≠j) {u:Value} {w w':World} (hR:RG G m i w w') (ho:s.ok u w):s.ok u w':=by
 cases s with
 | ex v=>exact ho
 | rel p =>
  simp only [specLastG] at h;unfold RG at hR
  by_cases hj:j=m
  ·rw [if_pos hj] at h
   rw [if_neg (by omega)] at hR;exact h u w w' hR ho
  ·rw [if_neg hj] at h
   by_cases hi:i=m
   ·rw [if_pos hi] at hR;exact h u w w' hR ho
   ·rw [if_neg hi] at hR;exact h u w w' (hG _ _ hR) ho
 | new p =>
  simp only [specLastG] at h;unfold RG at hR
  by_cases hj:j=m
  ·rw [if_pos hj] at h
   rw [if_neg (by omega)] at hR;exact h u w w' hR ho
  ·rw [if_neg hj] at h
   by_cases hi:i=m
   ·rw [if_pos hi] at hR;exact h u w w' hR ho
   ·rw [if_neg hi] at hR;exact h u w w' (hG _ _ hR) ho
section
variable {P:Program} {ops:Array Oper} {C:World→Prop} {fin:Act→World→Prop}
theorem wp_region_relsG {id:Nat} {Q:Exit→Act→World→Prop} {a:Act} {w:World} {l:List Oper} (n:Nat) (ds:List (List Nat)) (form:List Form) (C:World→Prop) (G:World→World→Prop) (m:Nat) (hm:P.follows .mixedOrders=true) (hB:relB l.toArray n ds=true) (hn:ds.length=n) (hs:form.length=n)
 (hC0:C w.drew) (hG:∀w w',Below w.heap.size w w'→G w w') (hGs:∀w w',G w w'→w.heap.size≤w'.heap.size) (hC:∀w w',C w→G w w'→C w') (hlast:formLastG G m 0 form)
 (h:ExSpecs form fun ss=>relWalkR P l.toArray C (fun a' w'=>wpList P l.toArray Q (l.drop n) a' w') (RG G m) (l.take n) (ss.zip ds) 0 [] [] a):(Code.region id l.toArray true).wp P Q a w:=by
 obtain ⟨ss,h1,h2,h3⟩:=exSpecs_ofG form _ 0 hlast h
 have hto:∀i w w',RG G m i w w'→G w w':=fun i w w' h=>by
  unfold RG at h
  split at h
  ·exact h
  ·exact hG _ _ h
 refine wp_region_relR n ds ss C hm hB hn (h1.trans hs) hC0 (RG G m) (fun i w=>?_) (fun i w w' h=>hGs _ _ (hto i w w' h)) (fun i j s dl hi hij _ hj u w w' hR ho=>?_) (fun i w w' hc h=>hC w w' hc (hto i w w' h)) h3
 ·unfold RG
  split
  ·exact hG _ _ (Below.refl _ _)
  ·exact Below.refl _ _
 ·have hj':=(List.getElem?_zip_eq_some.1 hj).1
  have:=h2 j s hj';rw [Nat.zero_add] at this;exact specLastG_ok hG this hij hR ho
variable {G:World→World→Prop} {m:Nat}
theorem rg_of {k:Nat} (hk:(k==m)=false) {o:Oper} {a:Act} {w:World} {p:Value→World→Prop} (h:relOp P ops o a w p):relOpR (RG G m k) P ops o a w p:=by
 have:RG G m k=BelowR:=by unfold RG;rw [if_neg (by simpa using hk)]
 rw [this];exact relOpR_of (fun _ _ h=>h) h
theorem relWalkR_ex {o:Oper} {l:List Oper} {v:Value} {ss:List Spec} {d:List Nat} {ds:List (List Nat)} {k:Nat} {Γ:Facts} {U:List Value} {a:Act} (hg:o.guard=none) (hk:(k==m)=false) (h1:∀w,C w→factsOf Γ d w→relAt P o a w fun u _=>u=v)
 (h2:∀K:Act→Prop,(∀a',relWalkR P ops C fin (RG G m) l (ss.zip ds) (k+1) Γ U a'→K a')→K (a.put o.dst v)):relWalkR P ops C fin (RG G m) (o::l) ((Spec.ex v::ss).zip (d::ds)) k Γ U a :=
 ⟨fun w hC hF=>rg_of hk (relOp_plain hg (h1 w hC hF)),h2 _ fun _ h=>h⟩
theorem relWalkR_rel {o:Oper} {l:List Oper} {p:Value→World→Prop} {ss:List Spec} {d:List Nat} {ds:List (List Nat)} {k:Nat} {Γ:Facts} {U:List Value} {a:Act} (hg:o.guard=none) (hk:(k==m)=false) (h1:∀w,C w→factsOf Γ d w→relAt P o a w p)
 (h2:∀(u:Value) (K:Act→Prop),(∀a',relWalkR P ops C fin (RG G m) l (ss.zip ds) (k+1) ((k,p u)::Γ) U a'→K a')→K (a.put o.dst u)):relWalkR P ops C fin (RG G m) (o::l) ((Spec.rel p::ss).zip (d::ds)) k Γ U a :=
 ⟨fun w hC hF=>rg_of hk (relOp_plain hg (h1 w hC hF)),fun u=>h2 u _ fun _ h=>h⟩
theorem relWalkR_wr {o:Oper} {l:List Oper} {p:Value→World→Prop} {ss:List Spec} {d:List Nat} {ds:List (List Nat)} {k:Nat} {Γ:Facts} {U:List Value} {a:Act} (hg:o.guard=none) (hk:(k==m)=true) (h1:∀w,C w→factsOf Γ d w→relAtR G P o a w p)
 (h2:∀(u:Value) (K:Act→Prop),(∀a',relWalkR P ops C fin (RG G m) l (ss.zip ds) (k+1) ((k,p u)::Γ) U a'→K a')→K (a.put o.dst u)):relWalkR P ops C fin (RG G m) (o::l) ((Spec.rel p::ss).zip (d::ds)) k Γ U a :=
 ⟨fun w hC hF=>by
  have:RG G m k=G:=by unfold RG;rw [if_pos (by simpa using hk)]
  rw [this];unfold relOpR Region.wanted;rw [hg];exact h1 w hC hF,fun u=>h2 u _ fun _ h=>h⟩
theorem relWalkR_end {ss:List Spec} {ds:List (List Nat)} {k:Nat} {Γ:Facts} {U:List Value} {a:Act} (h:∀w,C w→factsAll Γ w→U.Pairwise (fun u v=>blkOf u≠blkOf v)→fin a w):relWalkR P ops C fin (RG G m) [] (ss.zip ds) k Γ U a:=h
end
def OwnR (e k B n:Nat) (cs:List Value) (v:Value) (W:World):Prop:=W.ownsRow B e k v n cs
theorem OwnR.kept_ {e k B n:Nat} {cs:List Value} {v:Value} {w w':World} (h:OwnR e k B n cs v w) (hb:Below w.heap.size w w'):OwnR e k B n cs v w' :=
 World.ownsRow.kept (row:=none) h ⟨hb.os,hb.tape,hb.output,hb.size,fun j hj _=>hb.block j hj⟩ (by cases hv:v.ownBlock<;>simp)
theorem OwnR.last (e k B n:Nat) (cs:List Value):Lasts (OwnR e k B n cs):=fun _ _ _ hb h=>h.kept_ hb
def Nil0 (e k B:Nat) (v:Value) (W:World):Prop:=W.ownsRow B e k v 0 []∧∃g,B≤g∧g<W.heap.size∧v=.slice (some ⟨g,0,none⟩) 0 0
theorem Nil0.last (e k B:Nat):Lasts (Nil0 e k B):=fun _ _ _ hb h=>⟨OwnR.kept_ h.1 hb,by obtain ⟨g,h1,h2,h3⟩:=h.2;exact ⟨g,h1,Nat.lt_of_lt_of_le h2 hb.size,h3⟩⟩
theorem Nil0.made {e k B:Nat} (w:World) (hB:B≤w.heap.size):Nil0 e k B (.slice (some ⟨w.heap.size,0,none⟩) 0 0) (w.alloc (.cells #[] e)) :=
 ⟨World.ownsRow_made w #[] 0 hB (Nat.zero_le _) (by simp),w.heap.size,hB,by simp,rfl⟩
theorem own_apart {W:World} {B e k n B' e' k' n':Nat} {v v':Value} {xs xs':List Value} (h:W.ownsRow B e k v n xs) (h':W.ownsRow B' e' k' v' n' xs') (hne:e≠e'):v.ownBlock=none∨v.ownBlock≠v'.ownBlock:=by
 rcases h.2 with ⟨rfl,_⟩|⟨g,cap,cur,rfl,_,hg,_⟩
 ·exact .inl rfl
 ·right
  rcases h'.2 with ⟨rfl,_⟩|⟨g',cap',cur',rfl,_,hg',_⟩
  ·simp [Value.ownBlock]
  ·intro hh
   simp [Value.ownBlock] at hh
   subst hh;rw [hg] at hg'
   injection hg' with hx
   injection hx with _ hx _
   exact hne hx
theorem blk_grown {W W':World} {g T:Nat} {C:Array Value} {B e k n:Nat} {v:Value} {xs:List Value} (h:Blk W g T C) (hg:W.grownBy W' v.ownBlock) (ho:W.ownsRow B e k v n xs) (hne:T≠e):Blk W' g T C:=by
 have hlt:=h.lt
 rcases ho.2 with ⟨rfl,_⟩|⟨g',cap,cur,rfl,_,hg',_⟩
 ·exact (hg.block g hlt (by simp [Value.ownBlock])).trans h
 ·refine (hg.block g hlt ?_).trans h
  intro hh
  simp [Value.ownBlock] at hh
  subst hh;unfold Blk at h;rw [h] at hg'
  injection hg' with hx
  injection hx with _ hx _
  exact hne hx
theorem own_farT {B q j k n e T:Nat} {v:Value} {xs:List Value} {W:World} {C:Array Value} (h:W.ownsRow B e k v n xs) (hq:Blk W q T C) (hne:e≠T) (u:Value):(W.setCell ⟨q,j,none⟩ u).ownsRow B e k v n xs:=by
 refine ⟨h.1,?_⟩
 rcases h.2 with h2|⟨g,cap,cur,e1,hg,hh,rest⟩
 ·exact .inl h2
 ·refine .inr ⟨g,cap,cur,e1,hg,Blk.far (show Blk W g e cur from hh) (fun hx=>?_) u,rest⟩
  have hx:g=q:=hx;subst hx;unfold Blk at hq;rw [hh] at hq
  injection hq with hy
  injection hy with _ hy _
  exact hne hy
def One (e L:Nat) (C:Array Value) (u:Value) (W:World):Prop:=∃g,u=.slice (some ⟨g,0,none⟩) 1 1∧Blk W g e C∧L≤g
theorem One.last (e L:Nat) (C:Array Value):Lasts (One e L C):=fun _ _ _ hb ⟨g,h1,h2,h3⟩=>⟨g,h1,h2.below hb h2.lt,h3⟩
section
variable {P:Program}
theorem run_append0 (w:World) (B t ty e:Nat) (i:TypeInfo) (z:Value) (size:Nat) (ht:P.underlying t=some (.slice e)) (hi:P.info? e=some i) (hz:i.zero=some z) (hsize:i.size=size) (hby:i.bytes≤1000) (hzs:z.cells.size=size) (hsz:0<size)
 (v:Value) (hv:Nil0 e size B v w) (n₀:Nat) (p:Option Addr) (m c:Nat) (news:List Value) (hr:Reads w n₀ size p m news) (h1:∀u ∈ news,u.oneCell'=true) (hm:m≤1048576) :
 ∃v' w',(Builtin.append_ #[t,t] ty #[v,.slice p m c]).run P w=.ok v' w'∧w'.ownsRow B e size v' m news∧Below w.heap.size w w':=by
 obtain ⟨ho,g,hBg,hg,rfl⟩:=hv
 by_cases h0:m=0
 ·subst h0
  have hn:news=[]:=List.eq_nil_of_length_eq_zero (by simpa using hr.1);subst hn;refine ⟨_,_,?_,ho,Below.refl _ _⟩
  cases p with
  | none=>simp [Builtin.append_,run_underlying ht,sizeOf,typeInfo,hi,Builtin.lenOf,Builtin.firstCells,storeCells]
  | some a =>
   have hf:=run_firstCells_some (P:=P) w i.size 0 a 0 c [] (by simp) (by simp)
   simp [Builtin.append_,run_underlying ht,sizeOf,typeInfo,hi,Builtin.lenOf,hf,storeCells]
 ·obtain ⟨a,rfl,_,hc⟩:=hr.2 (by omega)
  have hb2:(0+m)*i.bytes≤140737488355328:=by
   have:(0+m)*i.bytes≤1048576*1000:=Nat.mul_le_mul (by omega) hby
   omega
  obtain ⟨v',w',hrun,hown,_,_⟩:=run_append_own (P:=P) w B t ty e i z size i.bytes ht hi hz hsize rfl hzs hsz _ 0 [] ho a m c news hr.1 hc h1 (by unfold maxLen;omega) hb2 (by omega);have hrun2:=run_append_grow (P:=P) w t ty e i z ht hi hz ⟨g,0,none⟩ 0 0 [] (by simp) (by simp) a m c news (by rw [hsize];exact hr.1) hc (by omega) (by omega) (growslice_fits (by omega) hb2);refine ⟨v',w',hrun,by simpa using hown,?_⟩;rw [hrun] at hrun2
  injection hrun2 with _ hw
  rw [hw];exact ((Below.refl _ _).drew).alloc (Nat.le_refl _) _
theorem relAt_append0 {o:Oper} {a:Act} {w:World} {s x:Operand} {t e:Nat} (ho:o.op=.call { callee:=.builtin .append,args:=#[s,x],argTypes:=#[t,t] }) (B:Nat) (i:TypeInfo) (z:Value) (size:Nat) (ht:P.underlying t=some (.slice e)) (hi:P.info? e=some i) (hz:i.zero=some z) (hsize:i.size=size) (hby:i.bytes≤1000) (hzs:z.cells.size=size) (hsz:0<size)
 (v:Value) (hs:a.eval s=v) (hv:Nil0 e size B v w) (n₀:Nat) (p:Option Addr) (m c:Nat) (news:List Value) (hx:a.eval x=.slice p m c) (hr:Reads w n₀ size p m news) (h1:∀u ∈ news,u.oneCell'=true) (hm:m≤1048576):relAt P o a w (OwnR e size B m news):=by
 obtain ⟨v',w',hrun,hown,hb⟩:=run_append0 w B t o.type e i z size ht hi hz hsize hby hzs hsz v hv n₀ p m c news hr h1 hm;unfold relAt
 simp [execOp,ho,resolve,invoke,builtin,hs,hx,hrun,Result.andThen]
 exact ⟨hb,hown⟩
def GOwn (e k B n:Nat) (xs:List Value) (v:Value) (w w':World):Prop:=w.grownBy w' v.ownBlock∧(w.ownsRow B e k v n xs→w'.ownsRow B e k v n xs)
theorem GOwn.of_below {e k B n:Nat} {xs:List Value} {v:Value} (w w':World) (hb:Below w.heap.size w w'):GOwn e k B n xs v w w' :=
 ⟨⟨hb.os,hb.tape,hb.output,hb.size,fun j hj _=>hb.block j hj⟩,fun h=>OwnR.kept_ (w:=w) h hb⟩
theorem own_back {e k B n m g cap:Nat} {xs news:List Value} {w w':World} (h:w.ownsRow B e k (.slice (some ⟨g,0,none⟩) n cap) n xs) (h':w'.ownsRow B e k (.slice (some ⟨g,0,none⟩) (n+m) cap) (n+m) (xs++news)):w'.ownsRow B e k (.slice (some ⟨g,0,none⟩) n cap) n xs:=by
 refine ⟨h.1,?_⟩
 rcases h'.2 with ⟨hv,_⟩|⟨g',cap',cur,hv,hb,hg,hnc,hcm,hcs,htake⟩
 ·cases hv
 ·simp only [Value.slice.injEq,Option.some.injEq,Addr.mk.injEq,and_true,true_and] at hv
  obtain ⟨rfl,rfl⟩:=hv;refine .inr ⟨g,cap,cur,rfl,hb,hg,by omega,hcm,hcs,?_⟩;have:=congrArg (List.take (n*k)) htake;rwa [List.take_take,Nat.min_eq_left (Nat.mul_le_mul_right _ (by omega)),List.take_left' h.1] at this
theorem run_append_push (w:World) (B t ty e:Nat) (i:TypeInfo) (z:Value) (size:Nat) (ht:P.underlying t=some (.slice e)) (hi:P.info? e=some i) (hz:i.zero=some z) (hsize:i.size=size) (hby:i.bytes≤1000) (hzs:z.cells.size=size) (hsz:0<size)
 (v:Value) (n:Nat) (xs:List Value) (hv:w.ownsRow B e size v n xs) (g' c:Nat) (C:Array Value) (hr:Blk w g' e C) (hC:C.size=size) (h1:∀u ∈ C.toList,u.oneCell'=true) (hn:n≤1048576) (hB:B≤w.heap.size) :
 ∃v' w',(Builtin.append_ #[t,t] ty #[v,.slice (some ⟨g',0,none⟩) 1 c]).run P w=.ok v' w'∧w'.ownsRow B e size v' (n+1) (xs++C.toList)∧GOwn e size B n xs v w w':=by
 have hb2:(n+1)*i.bytes≤140737488355328:=by
  have:(n+1)*i.bytes≤1048577*1000:=Nat.mul_le_mul (by omega) hby
  omega
 have hl:C.toList.length=1*size:=by simp [hC]
 have hc:∀j u,C.toList[j]? = some u→w.cell? ((⟨g',0,none⟩:Addr).add j)=some u:=fun j u hu=>by
  rw [Addr.add_lit,Nat.zero_add];exact hr.cell_ (by simpa using hu)
 obtain ⟨v',w',hrun,hown,hgr,_⟩:=run_append_own (P:=P) w B t ty e i z size i.bytes ht hi hz hsize rfl hzs hsz v n xs hv ⟨g',0,none⟩ 1 c C.toList hl hc h1 (by unfold maxLen;omega) hb2 hB;refine ⟨v',w',hrun,hown,hgr,fun _=>?_⟩
 rcases hv.2 with ⟨rfl,rfl⟩|⟨g,cap,cur,rfl,hbg,hg,hnc,hcm,hcs,htake⟩
 ·have:xs=[]:=List.eq_nil_of_length_eq_zero (by simpa using hv.1)
  subst this;exact World.ownsRow_nil ..
 ·by_cases hroom:n+1≤cap
  ·obtain ⟨w2,hrun2,hown2,_⟩:=run_append_fits (P:=P) w B t ty e i size ht hi hsize g n cap xs hv ⟨g',0,none⟩ 1 c C.toList hl hc h1 hroom
   rw [hrun] at hrun2
   injection hrun2 with e1 e2
   subst e1 e2;exact own_back hv hown2
  ·have hrun2:=run_append_grow (P:=P) w t ty e i z ht hi hz ⟨g,0,none⟩ n cap xs (by rw [hsize];exact hv.1) (hv.cells (g:=g) rfl) ⟨g',0,none⟩ 1 c C.toList (by rw [hsize];exact hl) hc (by omega) (by omega) (growslice_fits (by omega) hb2)
   rw [hrun] at hrun2
   injection hrun2 with _ e2
   rw [e2];exact OwnR.kept_ hv (((Below.refl _ _).drew).alloc (Nat.le_refl _) _)
theorem relAtR_push {o:Oper} {a:Act} {w:World} {s x:Operand} {t e:Nat} (ho:o.op=.call { callee:=.builtin .append,args:=#[s,x],argTypes:=#[t,t] }) (B:Nat) (i:TypeInfo) (z:Value) (size:Nat) (ht:P.underlying t=some (.slice e)) (hi:P.info? e=some i) (hz:i.zero=some z) (hsize:i.size=size) (hby:i.bytes≤1000) (hzs:z.cells.size=size) (hsz:0<size)
 (v:Value) (n:Nat) (xs:List Value) (hs:a.eval s=v) (hv:w.ownsRow B e size v n xs) (g' c:Nat) (C:Array Value) (hx:a.eval x=.slice (some ⟨g',0,none⟩) 1 c) (hr:Blk w g' e C) (hC:C.size=size) (h1:∀u ∈ C.toList,u.oneCell'=true) (hn:n≤1048576) (hB:B≤w.heap.size)
 {p:Value→World→Prop} (hp:∀v' w',w'.ownsRow B e size v' (n+1) (xs++C.toList)→GOwn e size B n xs v w w'→p v' w'):relAtR (GOwn e size B n xs v) P o a w p:=by
 obtain ⟨v',w',hrun,hown,hg⟩:=run_append_push w B t o.type e i z size ht hi hz hsize hby hzs hsz v n xs hv g' c C hr hC h1 hn hB;unfold relAtR
 simp [execOp,ho,resolve,invoke,builtin,hs,hx,hrun,Result.andThen]
 exact ⟨hg,hp _ _ hown hg⟩
end
theorem fill_fold (L:List Value):∀(k:Nat) (Z:Array Value),((L.zipIdx k).foldl (fun cs (p:Value × Nat)=>cs.setIfInBounds (0+p.2) p.1) Z).size=Z.size∧∀i,((L.zipIdx k).foldl (fun cs (p:Value × Nat)=>cs.setIfInBounds (0+p.2) p.1) Z)[i]? = if k≤i∧i<k+L.length∧i<Z.size then L[i-k]? else Z[i]?:=by
 induction L with
 | nil=>intro k Z;refine ⟨rfl,fun i=>?_⟩;rw [if_neg (by simp;omega)];rfl
 | cons x L ih =>
  intro k Z;obtain ⟨h1,h2⟩:=ih (k+1) (Z.setIfInBounds (0+k) x);simp only [List.zipIdx_cons,List.foldl_cons];refine ⟨by rw [h1];simp,fun i=>?_⟩;rw [h2]
  by_cases hi:i=k
  ·subst hi
   rw [if_neg (by omega)]
   by_cases hz:i<Z.size
   ·rw [if_pos ⟨Nat.le_refl _,by simp,hz⟩];simp [hz]
   ·rw [if_neg (fun h=>hz h.2.2)];simp [hz]
  ·by_cases hc:k+1≤i∧i<k+1+L.length∧i<(Z.setIfInBounds (0+k) x).size
   ·rw [if_pos hc,if_pos ⟨by omega,by simp;omega,by simpa using hc.2.2⟩]
    rw [show i-k=(i-(k+1))+1 by omega,List.getElem?_cons_succ]
   ·rw [if_neg hc,if_neg (fun h=>hc ⟨by omega,by have:=h.2.1;simp at this;omega,by simpa using h.2.2⟩),Array.getElem?_setIfInBounds_ne (by omega)]
theorem fill_all (C Z:Array Value) (h:Z.size=C.size):C.zipIdx.foldl (fun cs (p:Value × Nat)=>cs.setIfInBounds (0+p.2) p.1) Z=C:=by
 rw [←Array.foldl_toList,Array.toList_zipIdx];obtain ⟨h1,h2⟩:=fill_fold C.toList 0 Z
 apply Array.ext_getElem?
 intro i;rw [h2]
 by_cases hi:i<C.size
 ·rw [if_pos ⟨Nat.zero_le _,by simpa using hi,by omega⟩];simp
 ·rw [if_neg (fun hh=>hi (by have:=hh.2.1;simpa using this)),Array.getElem?_eq_none (by omega),Array.getElem?_eq_none (by omega)]
theorem relAt_one {P:Program} {o:Oper} {a:Act} {w:World} {x:Operand} {t e:Nat} (ho:o.op=.buildSlice t 1 #[(0,x)]) (i:TypeInfo) (z:Value) (ht:P.underlying t=some (.slice e)) (hi:P.info? e=some i) (hz:i.zero=some z) (C:Array Value) (hx:a.eval x=.agg C) (hs:i.size=C.size) (hzs:z.cells.size=C.size) (h0:0<C.size) (h1:C.size≤1000) (L:Nat) (hL:L≤w.heap.size):relAt P o a w (One e L C):=by
 unfold relAt
 have hfill:∀Z:Array Value,Z.size=C.size→Instr.fill (fun i=>some (i*C.size,C.size)) Z [(0,Value.agg C)]=some C:=fun Z hZ=>by
  have hf:=fill_all C Z hZ;simp only [Instr.fill,Value.cells,Nat.zero_mul,Nat.zero_add];rw [if_neg (by simp [hZ])];exact congrArg some (by simpa using hf)
 replace hfill:=hfill ((Array.range C.size).map (z.cells[· % z.cells.size]!)) (by simp);simp only [execOp,ho,hx,Instr.buildSlice,run_underlying ht,sizeOf,typeInfo,zeroValue,hi,hz,hs,newRow,Nat.one_mul,Sem.run_bind,Sem.run_pure,Result.andThen_ok]
 simp [hx,hfill,run_underlying ht,sizeOf,typeInfo,zeroValue,hi,hz,hs,newRow,show ¬(16777216<C.size) by omega,show C.size≠0 by omega]
 exact ⟨(Below.refl _ _).alloc (Nat.le_refl _) _,_,rfl,Blk.new' _ _ _ rfl,hL⟩
structure GT (B e size n:Nat) (w w':World):Prop where
 os:w'.os=w.os
 tape:w'.tape=w.tape
 output:w'.output=w.output
 sz:w.heap.size≤w'.heap.size
 low:∀k,k<B→w'.heap[k]? = w.heap[k]?
 typ:∀(k:Nat) (cs:Array Value) (t:TypeId) (f:Nat × Nat),w.heap[k]? = some (Obj.cells cs t f)→t≠e→w'.heap[k]? = some (Obj.cells cs t f)
 row:∀(B':Nat) (v:Value) (m:Nat) (xs:List Value),m≤n→w.ownsRow B' e size v m xs→w'.ownsRow B' e size v m xs
theorem GT.of_below {B e size n:Nat} {w w':World} (hB:B≤w.heap.size) (h:Below w.heap.size w w'):GT B e size n w w' :=
 ⟨h.os,h.tape,h.output,h.size,fun k hk=>h.block k (by omega),fun k cs t f hk _=>(h.block k (Array.getElem?_eq_some_iff.1 hk).1).trans hk,fun B' v m xs _ ho=>OwnR.kept_ (w:=w) ho h⟩
theorem GT.below {B e size n:Nat} {w w':World} (h:GT B e size n w w'):Below B w w':=⟨h.os,h.tape,h.output,h.sz,h.low⟩
theorem GT.own {B e size n e' k' B' m:Nat} {v:Value} {xs:List Value} {w w':World} (h:GT B e size n w w') (ho:w.ownsRow B' e' k' v m xs) (hne:e'≠e):w'.ownsRow B' e' k' v m xs:=by
 refine ⟨ho.1,?_⟩
 rcases ho.2 with h2|⟨g,cap,cur,e1,hg,hh,rest⟩
 ·exact .inl h2
 ·exact .inr ⟨g,cap,cur,e1,hg,h.typ _ _ _ _ hh hne,rest⟩
theorem GT.blk {B e size n g T:Nat} {C:Array Value} {w w':World} (h:GT B e size n w w') (hb:Blk w g T C) (hne:T≠e):Blk w' g T C:=h.typ _ _ _ _ hb hne
section
variable {P:Program}
theorem run_append_more (w:World) (B t ty e:Nat) (i:TypeInfo) (z:Value) (size:Nat) (ht:P.underlying t=some (.slice e)) (hi:P.info? e=some i) (hz:i.zero=some z) (hsize:i.size=size) (hby:i.bytes≤1000) (hzs:z.cells.size=size) (hsz:0<size)
 (v:Value) (n:Nat) (xs:List Value) (hv:w.ownsRow B e size v n xs) (n₀:Nat) (p:Option Addr) (m c:Nat) (news:List Value) (hr:Reads w n₀ size p m news) (h1:∀u ∈ news,u.oneCell'=true) (hn:n≤1048576) (hm:m≤1048576) (hB:B≤w.heap.size) :
 ∃v' w',(Builtin.append_ #[t,t] ty #[v,.slice p m c]).run P w=.ok v' w'∧w'.ownsRow B e size v' (n+m) (xs++news)∧GT B e size n w w':=by
 cases p with
 | none =>
  have hm0:m=0:=by
   rcases Nat.eq_zero_or_pos m with h|h
   ·exact h
   ·obtain ⟨ad,h2,_⟩:=hr.2 h;cases h2
  subst hm0;have hn0:news=[]:=List.eq_nil_of_length_eq_zero (by simpa using hr.1);subst hn0;exact ⟨v,w,run_append_of_nil (P:=P) w B t ty e i size ht hi v n xs hv c,by simpa using hv,GT.of_below hB (Below.refl _ _)⟩
 | some a =>
  have hb2:(n+m)*i.bytes≤140737488355328:=by
   have:(n+m)*i.bytes≤2097152*1000:=Nat.mul_le_mul (by omega) hby
   omega
  have hc:∀j u,news[j]? = some u→w.cell? (a.add j)=some u:=fun j u hu=>by
   rcases Nat.eq_zero_or_pos m with h|h
   ·subst h
    have:news=[]:=List.eq_nil_of_length_eq_zero (by simpa using hr.1);rw [this] at hu;simp at hu
   ·obtain ⟨ad,h2,_,h3⟩:=hr.2 h
    cases h2
    exact h3 j u hu
  obtain ⟨v',w',hrun,hown,hgr,_⟩:=run_append_own (P:=P) w B t ty e i z size i.bytes ht hi hz hsize rfl hzs hsz v n xs hv a m c news hr.1 hc h1 (by unfold maxLen;omega) hb2 hB;refine ⟨v',w',hrun,hown,?_⟩
  rcases hv.2 with ⟨rfl,rfl⟩|⟨g,cap,cur,rfl,hbg,hg,hnc,hcm,hcs,htake⟩
  ·exact GT.of_below hB ⟨hgr.os,hgr.tape,hgr.output,hgr.size,fun k hk=>hgr.block k hk (by simp [Value.ownBlock])⟩
  ·by_cases hroom:n+m≤cap
   ·obtain ⟨w2,hrun2,hown2,_⟩:=run_append_fits (P:=P) w B t ty e i size ht hi hsize g n cap xs hv a m c news hr.1 hc h1 hroom
    rw [hrun] at hrun2
    injection hrun2 with e1 e2
    subst e1 e2;have hne:∀k,k≠g→k<w.heap.size→w'.heap[k]? = w.heap[k]?:=fun k hk hl=>hgr.block k hl (by simp [Value.ownBlock];exact hk)
    refine ⟨hgr.os,hgr.tape,hgr.output,hgr.size,fun k hk=>hne k (by omega) (by omega),fun k cs t' f hk ht'=>?_,fun B' v2 m2 xs2 hm2 ho=>?_⟩
    ·refine (hne k (fun hx=>?_) (Array.getElem?_eq_some_iff.1 hk).1).trans hk
     subst hx;rw [hg] at hk
     injection hk with hy
     injection hy with _ hy _
     exact ht' hy.symm
    ·refine ⟨ho.1,?_⟩
     rcases ho.2 with h2|⟨g2,cap2,cur2,e1,hb2',hh,hc2,hm3,hs2,ht2⟩
     ·exact .inl h2
     ·by_cases hgg:g2=g
      ·subst hgg
       rw [hg] at hh
       injection hh with hy
       injection hy with hy _ _
       subst hy
       rcases hown.2 with ⟨hx,_⟩|⟨g3,cap3,cur3,hx,_,hg3,_,_,hs3,ht3⟩
       ·cases hx
       ·simp only [Value.slice.injEq,Option.some.injEq,Addr.mk.injEq,and_true,true_and] at hx
        obtain ⟨rfl,rfl⟩:=hx;refine .inr ⟨g2,cap2,cur3,e1,hb2',hg3,hc2,hm3,by rw [hs3,←hs2,hcs],?_⟩;have hle:m2*size≤n*size:=Nat.mul_le_mul_right _ hm2;have h5:=congrArg (List.take (m2*size)) ht3;rw [List.take_take,Nat.min_eq_left (Nat.mul_le_mul_right _ (by omega)),List.take_append_of_le_length (by rw [hv.1];exact hle),←htake,List.take_take,Nat.min_eq_left hle,ht2] at h5;exact h5
      ·exact .inr ⟨g2,cap2,cur2,e1,hb2',(hne g2 hgg (Array.getElem?_eq_some_iff.1 hh).1).trans hh,hc2,hm3,hs2,ht2⟩
   ·have hrun2:=run_append_grow (P:=P) w t ty e i z ht hi hz ⟨g,0,none⟩ n cap xs (by rw [hsize];exact hv.1) (hv.cells (g:=g) rfl) a m c news (by rw [hsize];exact hr.1) hc (by omega) (by omega) (growslice_fits (by omega) hb2)
    rw [hrun] at hrun2
    injection hrun2 with _ e2
    rw [e2];exact GT.of_below hB (((Below.refl _ _).drew).alloc (Nat.le_refl _) _)
theorem relAtR_more {o:Oper} {a:Act} {w:World} {s x:Operand} {t e:Nat} (ho:o.op=.call { callee:=.builtin .append,args:=#[s,x],argTypes:=#[t,t] }) (B:Nat) (i:TypeInfo) (z:Value) (size:Nat) (ht:P.underlying t=some (.slice e)) (hi:P.info? e=some i) (hz:i.zero=some z) (hsize:i.size=size) (hby:i.bytes≤1000) (hzs:z.cells.size=size) (hsz:0<size)
 (v:Value) (n:Nat) (xs:List Value) (hs:a.eval s=v) (hv:OwnR e size B n xs v w) (n₀:Nat) (p:Option Addr) (m c:Nat) (news:List Value) (hx:a.eval x=.slice p m c) (hr:Reads w n₀ size p m news) (h1:∀u ∈ news,u.oneCell'=true) (hn:n≤1048576) (hm:m≤1048576) (hB:B≤w.heap.size) :
 relAtR (GT B e size n) P o a w (OwnR e size B (n+m) (xs++news)):=by
 obtain ⟨v',w',hrun,hown,hg⟩:=run_append_more w B t o.type e i z size ht hi hz hsize hby hzs hsz v n xs hv n₀ p m c news hr h1 hn hm hB;unfold relAtR
 simp [execOp,ho,resolve,invoke,builtin,hs,hx,hrun,Result.andThen]
 exact ⟨hg,hown⟩
end
def formLastT (R:Nat→World→World→Prop) (wf:Nat→Nat→Bool):Nat→List Form→Prop
 | _,[]=>True
 | k,.val::l=>formLastT R wf (k+1) l
 | k,.rel p::l=>(∀i,i≠k→wf k i=false→∀u w w',R i w w'→p u w→p u w')∧formLastT R wf (k+1) l
 | k,.new p::l=>(∀i,i≠k→wf k i=false→∀u w w',R i w w'→p u w→p u w')∧formLastT R wf (k+1) l
def specLastT (R:Nat→World→World→Prop) (wf:Nat→Nat→Bool) (k:Nat) (s:Spec):Prop:=∀i,i≠k→wf k i=false→∀u w w',R i w w'→s.ok u w→s.ok u w'
theorem exSpecs_ofT {R:Nat→World→World→Prop} {wf:Nat→Nat→Bool} : ∀(l:List Form) (K:List Spec→Prop) (k:Nat),formLastT R wf k l→ExSpecs l K→∃ss,ss.length=l.length∧(∀(j:Nat) s,ss[j]? = some s→specLastT R wf (k+j) s)∧K ss
 | [],K,_,_,h=>⟨[],rfl,fun j s h=>by simp at h,h⟩
 | .val::l,K,k,hl,⟨v,h⟩=>by
  obtain ⟨ss,h1,h2,h3⟩:=exSpecs_ofT l _ (k+1) hl h;refine ⟨.ex v::ss,by simp [h1],fun j s hj=>?_,h3⟩
  cases j with
  | zero=>simp at hj;subst hj;exact fun i hi _ u w w' _ ho=>ho
  | succ j=>have:=h2 j s (by simpa using hj);rwa [show k+1+j=k+(j+1) by omega] at this
 | .rel p::l,K,k,hl,h=>by
  obtain ⟨ss,h1,h2,h3⟩:=exSpecs_ofT l _ (k+1) hl.2 h;refine ⟨.rel p::ss,by simp [h1],fun j s hj=>?_,h3⟩
  cases j with
  | zero=>simp at hj;subst hj;exact hl.1
  | succ j=>have:=h2 j s (by simpa using hj);rwa [show k+1+j=k+(j+1) by omega] at this
 | .new p::l,K,k,hl,h=>by
  obtain ⟨ss,h1,h2,h3⟩:=exSpecs_ofT l _ (k+1) hl.2 h;refine ⟨.new p::ss,by simp [h1],fun j s hj=>?_,h3⟩
  cases j with
  | zero=>simp at hj;subst hj;exact hl.1
  | succ j=>have:=h2 j s (by simpa using hj);rwa [show k+1+j=k+(j+1) by omega] at this
section
variable {P:Program} {ops:Array Oper} {C:World→Prop} {fin:Act→World→Prop} {R:Nat→World→World→Prop}
theorem wp_region_relsT {id:Nat} {Q:Exit→Act→World→Prop} {a:Act} {w:World} {l:List Oper} (n:Nat) (ds:List (List Nat)) (form:List Form) (C:World→Prop) (R:Nat→World→World→Prop) (hm:P.follows .mixedOrders=true) (hB:relB l.toArray n ds=true) (hn:ds.length=n) (hs:form.length=n)
 (hC0:C w.drew) (hrf:∀i w,R i w w) (hsz:∀i w w',R i w w'→w.heap.size≤w'.heap.size) (hC:∀i w w',C w→R i w w'→C w') (hlast:formLastT R (fun k i=>Region.waitsFor .any l.toArray k i) 0 form)
 (h:ExSpecs form fun ss=>relWalkR P l.toArray C (fun a' w'=>wpList P l.toArray Q (l.drop n) a' w') R (l.take n) (ss.zip ds) 0 [] [] a):(Code.region id l.toArray true).wp P Q a w:=by
 obtain ⟨ss,h1,h2,h3⟩:=exSpecs_ofT form _ 0 hlast h;refine wp_region_relR n ds ss C hm hB hn (h1.trans hs) hC0 R hrf hsz (fun i j s dl hi hij hwf hj u w w' hR ho=>?_) hC h3;have hj':=(List.getElem?_zip_eq_some.1 hj).1;have:=h2 j s hj';rw [Nat.zero_add] at this;exact this i hij hwf u w w' hR ho
theorem rt_of {k:Nat} (hk:R k=BelowR) {o:Oper} {a:Act} {w:World} {p:Value→World→Prop} (h:relOp P ops o a w p):relOpR (R k) P ops o a w p:=by
 rw [hk];exact relOpR_of (fun _ _ h=>h) h
theorem relWalkT_wr {G:World→World→Prop} {o:Oper} {l:List Oper} {p:Value→World→Prop} {ss:List Spec} {d:List Nat} {ds:List (List Nat)} {k:Nat} {Γ:Facts} {U:List Value} {a:Act} (hg:o.guard=none) (hk:R k=G) (h1:∀w,C w→factsOf Γ d w→relAtR G P o a w p)
 (h2:∀(u:Value) (K:Act→Prop),(∀a',relWalkR P ops C fin R l (ss.zip ds) (k+1) ((k,p u)::Γ) U a'→K a')→K (a.put o.dst u)):relWalkR P ops C fin R (o::l) ((Spec.rel p::ss).zip (d::ds)) k Γ U a :=
 ⟨fun w hC hF=>by
  rw [hk];unfold relOpR Region.wanted;rw [hg];exact h1 w hC hF,fun u=>h2 u _ fun _ h=>h⟩
theorem relWalkT_end {ss:List Spec} {ds:List (List Nat)} {k:Nat} {Γ:Facts} {U:List Value} {a:Act} (h:∀w,C w→factsAll Γ w→U.Pairwise (fun u v=>blkOf u≠blkOf v)→fin a w):relWalkR P ops C fin R [] (ss.zip ds) k Γ U a:=h
end
structure Row where
 e:Nat
 k:Nat
 n:Nat
 xs:List Value
 v:Value
def Row.own (B:Nat) (r:Row) (W:World):Prop:=W.ownsRow B r.e r.k r.v r.n r.xs
def Row.apart (r s:Row):Prop:=r.e≠s.e∨r.v.ownBlock=none∨r.v.ownBlock≠s.v.ownBlock
theorem Row.apart_symm {r s:Row} (h:r.apart s):s.apart r:=by
 rcases h with h|h|h
 ·exact .inl (Ne.symm h)
 ·by_cases hs:s.v.ownBlock=none
  ·exact .inr (.inl hs)
  ·exact .inr (.inr (by rw [h];exact hs))
 ·exact .inr (.inr (Ne.symm h))
structure Rows (B:Nat) (l:List Row) (W:World):Prop where
 own:∀r ∈ l,r.own B W
 apart:l.Pairwise Row.apart
theorem rows_ne {l:List Row} (h:l.Pairwise Row.apart) {i j:Nat} {r s:Row} (hi:l[i]? = some r) (hj:l[j]? = some s) (hne:i≠j):r.apart s:=by
 obtain ⟨hi1,hi2⟩:=List.getElem?_eq_some_iff.1 hi;obtain ⟨hj1,hj2⟩:=List.getElem?_eq_some_iff.1 hj;subst hi2 hj2
 rcases Nat.lt_or_gt_of_ne hne with h1|h1
 ·exact List.pairwise_iff_getElem.1 h i j hi1 hj1 h1
 ·exact Row.apart_symm (List.pairwise_iff_getElem.1 h j i hj1 hi1 h1)
theorem rows_blk {W:World} {B e k n:Nat} {v:Value} {xs:List Value} (h:W.ownsRow B e k v n xs):v.ownBlock=none∨∃g C,v.ownBlock=some g∧Blk W g e C∧B≤g:=by
 rcases h.2 with ⟨rfl,_⟩|⟨g,cap,cur0,rfl,hB,hh,_⟩
 ·exact .inl rfl
 ·exact .inr ⟨g,cur0,rfl,hh,hB⟩
theorem rows_typ {W:World} {g T T':Nat} {C C':Array Value} (h:Blk W g T C) (h':Blk W g T' C'):T=T':=by
 unfold Blk at h h';rw [h] at h'
 injection h' with hx
 injection hx
theorem rows_other {W:World} {B:Nat} {r s:Row} (hr:r.own B W) (hs:s.own B W) (h:r.apart s):r.v.ownBlock=none∨r.v.ownBlock≠s.v.ownBlock:=by
 rcases h with h|h
 ·rcases rows_blk hr with h1|⟨g,C,h1,h2,_⟩
  ·exact .inl h1
  ·rcases rows_blk hs with h3|⟨g',C',h3,h4,_⟩
   ·exact .inr (by rw [h1,h3];simp)
   ·refine .inr fun hh=>h ?_
    rw [h1,h3] at hh;obtain rfl:=Option.some.inj hh;exact rows_typ h2 h4
 ·exact h
theorem Rows.below {B:Nat} {l:List Row} {W W':World} (h:Rows B l W) (hb:Below W.heap.size W W'):Rows B l W':=⟨fun r hr=>OwnR.kept_ (w:=W) (h.own r hr) hb,h.apart⟩
theorem Rows.mono {B B':Nat} {l:List Row} {W:World} (h:Rows B l W) (hB:B'≤B):Rows B' l W:=⟨fun r hr=>⟨(h.own r hr).1,by
 rcases (h.own r hr).2 with h2|⟨g,cap,cur,e1,hg,rest⟩
 ·exact .inl h2
 ·exact .inr ⟨g,cap,cur,e1,by omega,rest⟩⟩,h.apart⟩
theorem Rows.kept {B:Nat} {l:List Row} {W W':World} (h:Rows B l W) {i:Nat} {r:Row} (hi:l[i]? = some r) (hg:GOwn r.e r.k B r.n r.xs r.v W W'):Rows B l W':=by
 refine ⟨fun s hs=>?_,h.apart⟩;obtain ⟨j,hj⟩:=List.mem_iff_getElem?.1 hs
 by_cases hij:j=i
 ·subst hij
  rw [hi] at hj;obtain rfl:=Option.some.inj hj;exact hg.2 (h.own r hs)
 ·exact World.ownsRow.kept (h.own s hs) hg.1 (rows_other (h.own s hs) (h.own r (List.mem_of_getElem? hi)) (rows_ne h.apart hj hi hij))
def Renewed (L:Nat) (v v':Value):Prop:=v'.ownBlock=v.ownBlock∨∃g,v'.ownBlock=some g∧L≤g
theorem mem_set_ {α:Type} {l:List α} {i:Nat} {x y:α} (h:y ∈ l.set i x):y=x∨∃j,j≠i∧l[j]? = some y:=by
 obtain ⟨j,hj⟩:=List.mem_iff_getElem?.1 h
 by_cases hij:j=i
 ·subst hij
  have hlt:j<l.length:=by have:=(List.getElem?_eq_some_iff.1 hj).1;simpa using this
  rw [List.getElem?_set_self hlt] at hj;exact .inl (Option.some.inj hj).symm
 ·rw [List.getElem?_set_ne (Ne.symm hij)] at hj
  exact .inr ⟨j,hij,hj⟩
theorem pairwise_set {l:List Row} (h:l.Pairwise Row.apart) {i:Nat} {r':Row} (hr:∀(j:Nat) s,j≠i→l[j]? = some s→s.apart r'):(l.set i r').Pairwise Row.apart:=by
 refine List.pairwise_iff_getElem.2 fun a b ha hb hab=>?_
 have ha':a<l.length:=by simpa using ha
 have hb':b<l.length:=by simpa using hb
 by_cases h1:a=i
 ·subst h1
  rw [List.getElem_set_self,List.getElem_set_ne (by omega)];exact Row.apart_symm (hr b _ (by omega) (List.getElem?_eq_getElem hb'))
 ·rw [List.getElem_set_ne (Ne.symm h1)]
  by_cases h2:b=i
  ·subst h2
   rw [List.getElem_set_self];exact hr a _ h1 (List.getElem?_eq_getElem ha')
  ·rw [List.getElem_set_ne (Ne.symm h2)]
   exact List.pairwise_iff_getElem.1 h a b ha' hb' hab
theorem Rows.put {B L:Nat} {l:List Row} {W W':World} (h:Rows B l W) (hL:W.heap.size≤L) {i:Nat} {r r':Row} (hi:l[i]? = some r) (hg:W.grownBy W' r.v.ownBlock) (ho:r'.own B W') (he:r'.e=r.e) (hv:Renewed L r.v r'.v):Rows B (l.set i r') W':=by
 have hr:∀(j:Nat) s,j≠i→l[j]? = some s→s.v.ownBlock=none∨s.v.ownBlock≠r.v.ownBlock:=fun j s hj hs=>rows_other (h.own s (List.mem_of_getElem? hs)) (h.own r (List.mem_of_getElem? hi)) (rows_ne h.apart hs hi hj)
 refine ⟨fun s hs=>?_,pairwise_set h.apart fun j s hj hs=>?_⟩
 ·rcases mem_set_ hs with rfl|⟨j,hj,hs⟩
  ·exact ho
  ·exact World.ownsRow.kept (h.own s (List.mem_of_getElem? hs)) hg (hr j s hj hs)
 ·rcases hr j s hj hs with h1|h1
  ·exact .inr (.inl h1)
  ·rcases hv with h2|⟨g,h2,h3⟩
   ·exact .inr (.inr (by rw [h2];exact h1))
   ·refine .inr (.inr fun hh=>?_)
    rw [h2] at hh
    rcases rows_blk (h.own s (List.mem_of_getElem? hs)) with h4|⟨g',C,h4,h5,_⟩
    ·rw [h4] at hh;cases hh
    ·rw [h4] at hh
     obtain rfl:=Option.some.inj hh;have:=h5.lt
     omega
theorem Rows.put_ {B L:Nat} {l:List Row} {W':World} (h:Rows B l W') {i:Nat} {r r':Row} (hi:l[i]? = some r) (ho:r'.own B W') (he:r'.e=r.e) (hv:Renewed L r.v r'.v) (hlow:∀s ∈ l,s.e=r.e→∀g,s.v.ownBlock=some g→g<L):Rows B (l.set i r') W':=by
 have hr:∀(j:Nat) s,j≠i→l[j]? = some s→s.v.ownBlock=none∨s.v.ownBlock≠r.v.ownBlock:=fun j s hj hs=>rows_other (h.own s (List.mem_of_getElem? hs)) (h.own r (List.mem_of_getElem? hi)) (rows_ne h.apart hs hi hj)
 refine ⟨fun s hs=>?_,pairwise_set h.apart fun j s hj hs=>?_⟩
 ·rcases mem_set_ hs with rfl|⟨j,hj,hs⟩
  ·exact ho
  ·exact h.own s (List.mem_of_getElem? hs)
 ·by_cases hse:s.e=r.e
  ·rcases hr j s hj hs with h1|h1
   ·exact .inr (.inl h1)
   ·rcases hv with h2|⟨g,h2,h3⟩
    ·exact .inr (.inr (by rw [h2];exact h1))
    ·refine .inr (.inr fun hh=>?_)
     rw [h2] at hh;have:=hlow s (List.mem_of_getElem? hs) hse g hh
     omega
  ·exact .inl (by rw [he];exact hse)
def LowRows (L:Nat) (l:List Row):Prop:=∀s ∈ l,∀g,s.v.ownBlock=some g→g<L
theorem Rows.put2 {B L:Nat} {l:List Row} {W':World} (h:Rows B l W') (hlow:LowRows L l) {i j:Nat} {r r' s s':Row} (hi:l[i]? = some r) (hj:l[j]? = some s) (hij:i≠j) (hrs:r.e≠s.e)
 (ho:r'.own B W') (he:r'.e=r.e) (hv:Renewed L r.v r'.v) (ho':s'.own B W') (he':s'.e=s.e) (hv':Renewed L s.v s'.v):Rows B ((l.set i r').set j s') W':=by
 refine (h.put_ hi ho he hv fun q hq _=>hlow q hq).put_ (by rw [List.getElem?_set_ne hij];exact hj) ho' he' hv' fun q hq hqe=>?_
 rcases List.mem_or_eq_of_mem_set hq with hq|rfl
 ·exact hlow q hq
 ·exact absurd (he.symm.trans hqe) hrs
theorem Rows.perm {B:Nat} {l l':List Row} {W:World} (h:Rows B l W) (hp:l.Perm l'):Rows B l' W:=⟨fun r hr=>h.own r (hp.mem_iff.2 hr),(hp.pairwise_iff Row.apart_symm).1 h.apart⟩
theorem Rows.low {B:Nat} {l:List Row} {W:World} (h:Rows B l W):LowRows W.heap.size l:=fun s hs g hg=>by
 rcases rows_blk (h.own s hs) with h4|⟨g',C,h4,h5,_⟩
 ·rw [h4] at hg;cases hg
 ·rw [h4] at hg
  obtain rfl:=Option.some.inj hg;exact h5.lt
theorem Rows.push {B e k:Nat} {l:List Row} {W:World} (h:Rows B l W):Rows B (l++[⟨e,k,0,[],.slice none 0 0⟩]) W:=by
 refine ⟨fun r hr=>?_,List.pairwise_append.2 ⟨h.apart,List.pairwise_singleton ..,fun a ha b hb=>?_⟩⟩
 ·rcases List.mem_append.1 hr with hr|hr
  ·exact h.own r hr
  ·rw [List.mem_singleton.1 hr];exact World.ownsRow_nil ..
 ·rw [List.mem_singleton.1 hb]
  by_cases ha2:a.v.ownBlock=none
  ·exact .inr (.inl ha2)
  ·exact .inr (.inr ha2)
theorem Rows.far {B q j T:Nat} {l:List Row} {W:World} {C:Array Value} (h:Rows B l W) (hq:Blk W q T C) (hT:∀r ∈ l,r.e≠T) (u:Value):Rows B l (W.setCell ⟨q,j,none⟩ u):=⟨fun r hr=>own_farT (h.own r hr) hq (hT r hr) u,h.apart⟩
theorem own_set_ {W:World} {B e k n c g q:Nat} {xs:List Value} (u:Value) (h:W.ownsRow B e k (.slice (some ⟨g,0,none⟩) n c) n xs):(W.setCell ⟨g,q,none⟩ u).ownsRow B e k (.slice (some ⟨g,0,none⟩) n c) n (xs.set q u):=by
 refine ⟨by rw [List.length_set];exact h.1,?_⟩
 rcases h.2 with ⟨hx,_⟩|⟨g',cap,cur0,hx,hB,hh,hnc,hcm,hcs,ht⟩
 ·cases hx
 ·simp only [Value.slice.injEq,Option.some.injEq,Addr.mk.injEq,and_true,true_and] at hx
  obtain ⟨rfl,rfl⟩:=hx;refine .inr ⟨g,c,cur0.setIfInBounds q u,rfl,hB,Blk.set_ hh q u,hnc,hcm,by rw [Array.size_setIfInBounds];exact hcs,?_⟩;rw [Array.toList_setIfInBounds,List.take_set,ht]
theorem own_farN_ {B q j k n e:Nat} {v:Value} {xs:List Value} {W:World} (h:W.ownsRow B e k v n xs) (hq:v.ownBlock≠some q) (u:Value):(W.setCell ⟨q,j,none⟩ u).ownsRow B e k v n xs:=by
 refine ⟨h.1,?_⟩
 rcases h.2 with h2|⟨g,cap,cur,e1,hg,hh,rest⟩
 ·exact .inl h2
 ·refine .inr ⟨g,cap,cur,e1,hg,Blk.far (show Blk W g e cur from hh) (fun hx=>hq ?_) u,rest⟩
  have hx:g=q:=hx;rw [e1,hx]
  simp [Value.ownBlock]
theorem Rows.store {B g c q:Nat} {l:List Row} {W:World} (h:Rows B l W) {i e k n:Nat} {xs:List Value} (hi:l[i]? = some ⟨e,k,n,xs,.slice (some ⟨g,0,none⟩) n c⟩) (u:Value):Rows B (l.set i ⟨e,k,n,xs.set q u,.slice (some ⟨g,0,none⟩) n c⟩) (W.setCell ⟨g,q,none⟩ u):=by
 have ho:=h.own _ (List.mem_of_getElem? hi);refine ⟨fun s hs=>?_,pairwise_set h.apart fun j s hj hs=>?_⟩
 ·rcases mem_set_ hs with rfl|⟨j,hj,hs⟩
  ·exact own_set_ u ho
  ·have hr:=rows_other (h.own s (List.mem_of_getElem? hs)) ho (rows_ne h.apart hs hi hj)
   refine own_farN_ (h.own s (List.mem_of_getElem? hs)) (fun hh=>?_) u;rw [hh] at hr
   rcases hr with hr|hr
   ·cases hr
   ·exact hr (by simp [Value.ownBlock])
 ·have hr:=rows_ne h.apart hs hi hj
  exact hr
theorem Rows.blk {B g T:Nat} {l:List Row} {W W':World} {C:Array Value} (h:Rows B l W) {i:Nat} {r:Row} (hi:l[i]? = some r) (hb:Blk W g T C) (hg:W.grownBy W' r.v.ownBlock) (hne:T≠r.e):Blk W' g T C:=blk_grown hb hg (h.own r (List.mem_of_getElem? hi)) hne
def GrownR (e k B L:Nat) (v:Value) (n:Nat) (cs:List Value) (u:Value) (W:World):Prop:=W.ownsRow B e k u n cs∧Renewed L v u
def lowV (L:Nat) (v:Value):Prop:=∀g,v.ownBlock=some g→g<L
theorem lowV_of {B e k n:Nat} {v:Value} {xs:List Value} {W:World} (h:W.ownsRow B e k v n xs):lowV W.heap.size v:=fun g hg=>(h.lt g hg).2
theorem GrownR.last {e k B L n:Nat} {v:Value} {cs:List Value} : Lasts (GrownR e k B L v n cs):=fun u w w' hb h=>⟨OwnR.kept_ (w:=w) h.1 hb,h.2⟩
theorem GrownR.other {e k B L n e' k' B' n':Nat} {v v':Value} {cs xs':List Value} (ha:v.ownBlock=none∨v.ownBlock≠v'.ownBlock) (hl:lowV L v') (u:Value) (w w':World) (hg:GOwn e' k' B' n' xs' v' w w') (h:GrownR e k B L v n cs u w):GrownR e k B L v n cs u w':=by
 refine ⟨World.ownsRow.kept h.1 hg.1 ?_,h.2⟩
 rcases h.2 with h2|⟨g,h2,h3⟩
 ·rw [h2];exact ha
 ·refine .inr fun hh=>?_
  rw [h2] at hh;have:=hl g hh.symm
  omega
theorem one_other {e L e' k' B' n':Nat} {C:Array Value} {v':Value} {xs':List Value} (hl:lowV L v') (u:Value) (w w':World) (hg:GOwn e' k' B' n' xs' v' w w') (h:One e L C u w):One e L C u w':=by
 obtain ⟨g,h1,h2,h3⟩:=h;exact ⟨g,h1,(hg.1.block g h2.lt (fun hh=>by have:=hl g hh.symm;omega)).trans h2,h3⟩
section
variable {P:Program}
theorem relAtR_push2 {o:Oper} {a:Act} {w:World} {s x:Operand} {t e:Nat} (ho:o.op=.call { callee:=.builtin .append,args:=#[s,x],argTypes:=#[t,t] }) (B L:Nat) (i:TypeInfo) (z:Value) (size:Nat) (ht:P.underlying t=some (.slice e)) (hi:P.info? e=some i) (hz:i.zero=some z) (hsize:i.size=size) (hby:i.bytes≤1000) (hzs:z.cells.size=size) (hsz:0<size)
 (v:Value) (n:Nat) (xs:List Value) (hs:a.eval s=v) (hv:w.ownsRow B e size v n xs) (g' c:Nat) (C:Array Value) (hx:a.eval x=.slice (some ⟨g',0,none⟩) 1 c) (hr:Blk w g' e C) (hC:C.size=size) (h1:∀u ∈ C.toList,u.oneCell'=true) (hn:n≤1048576) (hB:B≤w.heap.size) (hL:L≤w.heap.size)
 {p:Value→World→Prop} (hp:∀u w',GrownR e size B L v (n+1) (xs++C.toList) u w'→p u w'):relAtR (GOwn e size B n xs v) P o a w p:=by
 obtain ⟨v',w',hrun,hown,hg⟩:=run_append_push w B t o.type e i z size ht hi hz hsize hby hzs hsz v n xs hv g' c C hr hC h1 hn hB
 have hb2:(n+1)*i.bytes≤140737488355328:=by
  have:(n+1)*i.bytes≤1048577*1000:=Nat.mul_le_mul (by omega) hby
  omega
 have hc:∀j u,C.toList[j]? = some u→w.cell? ((⟨g',0,none⟩:Addr).add j)=some u:=fun j u hu=>by
  rw [Addr.add_lit,Nat.zero_add];exact hr.cell_ (by simpa using hu)
 obtain ⟨v2,w2,hrun2,_,_,_,hat⟩:=Go.run_append_own_at (P:=P) (w:=w) B t o.type e i z size i.bytes ht hi hz hsize rfl hzs hsz v n xs hv ⟨g',0,none⟩ 1 c C.toList (by simp [hC]) hc h1 (by unfold maxLen;omega) hb2 hB;rw [hrun] at hrun2
 injection hrun2 with e1 e2
 subst e1 e2
 have hren:Renewed L v v':=by
  rcases hat with h|h
  ·exact .inl h
  ·exact .inr ⟨_,h,hL⟩
 unfold relAtR
 simp [execOp,ho,resolve,invoke,builtin,hs,hx,hrun,Result.andThen]
 exact ⟨hg,hp _ _ ⟨hown,hren⟩⟩
end
def RTwo (m1 m2:Nat) (G1 G2:World→World→Prop) (i:Nat):World→World→Prop:=if i=m1 then G1 else if i=m2 then G2 else BelowR
theorem RTwo.cases {m1 m2:Nat} {G1 G2:World→World→Prop} {i:Nat} {w w':World} (h:RTwo m1 m2 G1 G2 i w w'):(i=m1∧G1 w w')∨(i=m2∧G2 w w')∨Below w.heap.size w w':=by
 unfold RTwo at h
 split at h
 ·exact .inl ⟨by assumption,h⟩
 ·split at h
  ·exact .inr (.inl ⟨by assumption,h⟩)
  ·exact .inr (.inr h)
section
variable {P:Program}
end
theorem wpOp_of_relR2 {R:World→World→Prop} {P:Program} {ops:Array Oper} {i:Nat} {o:Oper} {a:Act} {w:World} {p:Value→World→Prop} {K:Act→World→Prop} {Q:Exit→Act→World→Prop} (hi:ops[i]? = some o) (hr:o.guard=none∨∀w,R w w) (h:relOpR R P ops o a w p)
 (hK:∀u w',R w w'→p u w'→K (a.put o.dst u) w'):wpOp P ops Q i K a w:=by
 rcases hr with hr|hr
 ·unfold wpOp
  simp only [hi];unfold relOpR at h;have hw:Region.wanted o (yielded ops a.tmps)=true:=by simp [Region.wanted,hr]
  rw [if_pos hw] at h;rw [if_pos hw];refine .inl ?_;unfold Oper.wp;unfold relAtR at h;generalize (execOp a.eval o).run P w=r at *
  cases r with
  | ok n w' =>
   cases n<;>simp only [relUponR] at h<;>simp only [Oper.upon]
   case value u=>exact hK _ _ h.1 h.2
   case skip=>exact hK _ _ h.1 h.2
   case enter f args=>exact h.mono fun e w'' ⟨u,he,hb,hp⟩=>by subst he;exact hK _ _ hb hp
  | halt x w'=>simp only [relUponR] at h
 ·exact wpOp_of_relR hr hi h hK
section
variable {P:Program} {ops:Array Oper} {fin:Act→World→Prop} {specs:List (Spec × List Nat)} {R:Nat→World→World→Prop}
theorem rel_gate {n gt:Nat} {C:Bool→World→Prop} {ds:List (List Nat)} {Q:Exit→Act→World→Prop} {a0:Act} {tl:List Oper} (hR:RelOk ops n ds) (hlen:specs.length=n) (hds:∀(i:Nat) s dl,specs[i]? = some (s,dl)→ds[i]? = some dl)
 (hrf:∀i w,i≠gt→R i w w) (hgg:∀o,ops[gt]? = some o→o.guard=none) (hsz:∀i w w',R i w w'→w.heap.size≤w'.heap.size) (hlast:∀(i j:Nat) s dl,i<n→i≠j→Region.waitsFor .any ops j i=false→specs[j]? = some (s,dl)→∀u w w',R i w w'→s.ok u w→s.ok u w') (hgt:gt<n) (hC:∀i b w w',i≠gt→(Region.waitsFor .any ops gt i=true→b=false)→C b w→R i w w'→C b w') (hCg:∀w w',C false w→R gt w w'→C true w') (htl:∀j,tl[j]? = ops[n+j]?) (htn:tl.length=ops.size-n)
 (hstep:∀us,Exact specs us→(∀(i:Nat) o,i<n→ops[i]? = some o→∃s dl,specs[i]? = some (s,dl)∧∀b w,(Region.waitsFor .any ops gt i=true→b=false)→(i=gt→b=false)→C b w→(∀j ∈ dl,FactAt specs us j w)→relOpR (R i) P ops o (lexF ops us a0 i) w (s.want w))∧(∀w,C true w→(∀j,FactAt specs us j w)→News specs us→wpList P ops Q tl (lexF ops us a0 n) w)) :
 ∀(f:Nat) (listed:Array Bool) (a:Act) (w:World) (us:Nat→Value),rlCnt listed n=f→HeadInv .any ops n listed→C (listed.getD gt true) w→Exact specs us→(∀j,j<n→listed.getD j true=true→FactAt specs us j w)→(∀j,j<n→listed.getD j true=true→IsNew specs j→∃g,blkOf (us j)=some g∧g<w.heap.size)→(∀i j,i<n→j<n→listed.getD i true=true→listed.getD j true=true→i≠j→IsNew specs i→IsNew specs j→blkOf (us i)≠blkOf (us j))→FrIs ops n us (fun j=>listed.getD j true) a0 a→wpAny P .any ops Q (f+(ops.size-n)) listed a w:=by
 intro f
 induction f with
 | zero =>
  intro listed a w us hc inv hw hE hf hN hP hfr;have hall:=rlCnt_zero n hc
  have hl:listed=Array.ofFn (n:=ops.size) fun i=>decide (i.val<n):=by
   apply Array.ext (by simp [inv.size])
   intro t h1 h2;simp only [Array.getElem_ofFn]
   by_cases ht:t<n
   ·have:=hall t ht
    rw [show listed.getD t true=listed[t] by simp [h1]] at this;rw [this];simp [ht]
   ·have:=inv.tail t (by omega) (by rw [←inv.size];exact h1)
    rw [show listed.getD t true=listed[t] by simp [h1]] at this;rw [this];simp [ht]
  have ha:a=lexF ops us a0 n:=hfr.same ((lexF_is hR.apart hR.le us a0 n (Nat.le_refl _)).congr (fun _ _ _=>rfl) fun j hj=>by rw [hall j hj];simp [hj])
  have hfa:∀j,FactAt specs us j w:=fun j=>by
   by_cases hj:j<n
   ·exact hf j hj (hall j hj)
   ·intro s dl hs
    rw [List.getElem?_eq_none (by omega)] at hs
    cases hs
  have hlt:∀j,IsNew specs j→j<n:=fun j ⟨p,ds',hj⟩=>by
   rw [←hlen];exact (List.getElem?_eq_some_iff.1 hj).1
  rw [hall gt hgt] at hw;have:=(hstep us hE).2 w hw hfa fun i j hij hi hj=>hP i j (hlt i hi) (hlt j hj) (hall i (hlt i hi)) (hall j (hlt j hj)) hij hi hj
  rw [←ha] at this;rw [Nat.zero_add,←htn];exact wpAny_of_seq tl n listed a w htl (by rw [htn,hl];exact hR.seq) this
 | succ f ih =>
  intro listed a w us hc inv hw hE hf hN hP hfr;rw [show f+1+(ops.size-n)=(f+(ops.size-n))+1 by omega];obtain ⟨k,hk,hku,hkl⟩:=rlCnt_least n (show rlCnt listed n≠0 by omega)
  have hkr:k ∈ Region.ready .any ops listed:=by
   obtain ⟨o,ho⟩:∃o,ops[k]? = some o:=⟨_,Array.getElem?_eq_getElem (by have:=hR.le;omega)⟩;refine mem_ready.2 ⟨hku,o,ho,fun e he hb=>?_⟩;have h1:=hR.before k o hk ho e he hb;rw [getD_of_in (by rw [inv.size];have:=hR.le;omega) false true];exact hkl _ h1
  refine ⟨fun h0=>(by rw [h0] at hkr;cases hkr),fun i hi=>?_⟩;obtain ⟨hiu,o,ho,hall⟩:=mem_ready.1 hi
  have hin:i<n:=by
   rcases Nat.lt_or_ge i n with h|h
   ·exact h
   ·rcases hR.tail with ht|⟨hs,hch⟩
    ·have:=(Array.getElem?_eq_some_iff.1 ho).1;omega
    ·by_cases hns:n<ops.size
     ·exact absurd hi (tail_waits hs hch hns inv _ k rfl hk hku i h)
     ·have:=(Array.getElem?_eq_some_iff.1 ho).1;omega
  obtain ⟨s,dl,hs,hst⟩:=(hstep us hE).1 i o hin ho
  have hfd:∀j ∈ dl,FactAt specs us j w:=fun j hj=>by
   have h1:=waits_listed ho hall (hR.deps i dl hin (hds i s dl hs) j hj)
   by_cases hjn:j<n
   ·exact hf j hjn (by rw [getD_of_in (by rw [inv.size];have:=hR.le;omega) true false];exact h1)
   ·intro s' dl' hs'
    rw [List.getElem?_eq_none (by omega)] at hs'
    cases hs'
  have hgf:Region.waitsFor .any ops gt i=true→listed.getD gt true=false:=fun hwf=>by
   cases hlg:listed.getD gt true with
   | false=>rfl
   | true =>
    exfalso
    obtain ⟨oj,hoj⟩:∃o,ops[gt]? = some o:=⟨_,Array.getElem?_eq_getElem (by have:=hR.le;omega)⟩;have h1:=waits_listed hoj (inv.closed gt oj hoj (by rw [getD_of_in (by rw [inv.size];have:=hR.le;omega) false true];exact hlg)) hwf;rw [getD_both hiu] at h1
    cases h1
  have hgi:i=gt→listed.getD gt true=false:=fun h=>by subst h;exact hiu
  have hop:=hst _ w hgf hgi hw hfd;have hfl:=lexF_is hR.apart hR.le us a0 i (by omega)
  have hop':relOpR (R i) P ops o a w (s.want w):=relOpR_congr (fun cs b=>hR.sel i o cs b ho) (fun t ht=>by
   by_cases hx:∃(j:Nat) (oj:Oper),j<n∧ops[j]? = some oj∧oj.dst=some t
   ·obtain ⟨j,oj,hj,hoj,hd⟩:=hx
    obtain ⟨h1,h2⟩:=hR.looks i j o oj t hin hj ho hoj hd ht;have h3:=waits_listed ho hall h2;have h4:listed.getD j true=true:=by rw [getD_of_in (by rw [inv.size];have:=hR.le;omega) true false];exact h3
    by_cases hts:t<a0.tmps.size
    ·rw [hfl.done j oj t hj hoj hd (by simpa using h1) hts,hfr.done j oj t hj hoj hd h4 hts]
    ·rw [show (lexF ops us a0 i).tmps[t]? = none from Array.getElem?_eq_none (by rw [hfl.size];exact Nat.le_of_not_lt hts),show a.tmps[t]? = none from Array.getElem?_eq_none (by rw [hfr.size];exact Nat.le_of_not_lt hts)]
   ·rw [hfl.out t fun j oj hj hoj _ hd=>hx ⟨j,oj,hj,hoj,hd⟩,hfr.out t fun j oj hj hoj _ hd=>hx ⟨j,oj,hj,hoj,hd⟩]) hop
  refine wpOp_of_relR2 ho (by by_cases h:i=gt;exact .inl (hgg o (by rw [←h];exact ho));exact .inr (fun w=>hrf i w h)) hop' fun u w' hb hp=>?_
  have hE':Exact specs (rlUpd us i u):=fun j v dl' hj=>by
   by_cases hji:j=i
   ·subst hji
    rw [hs] at hj
    cases hj
    rw [rlUpd_same];exact hp
   ·rw [rlUpd_ne hji];exact hE j v dl' hj
  refine ih (listed.setIfInBounds i true) (a.put o.dst u) w' (rlUpd us i u) (by have:=rlCnt_set hiu n hin;omega) (inv.set hi hin) (by
   by_cases hig:i=gt
   ·have h2:=hgi hig
    rw [h2] at hw;subst hig;rw [getD_set_self];exact hCg w w' hw hb
   ·rw [getD_set_ne true (fun h=>hig h)]
    exact hC i _ w w' hig hgf hw hb) hE' (fun j hj hl=>?_) (fun j hj hl hn=>?_) (fun j k hj hk hlj hlk hjk hnj hnk=>?_) (hfr.put hR.apart hin ho u fun j hj=>?_)
  ·intro s' dl' hs'
   by_cases hji:j=i
   ·subst hji
    rw [hs] at hs'
    cases hs'
    rw [rlUpd_same];exact Spec.want_ok hp
   ·rw [rlUpd_ne hji]
    rw [getD_set_ne true (fun h=>hji h.symm)] at hl;refine hlast i j s' dl' hin (fun h=>hji h.symm) ?_ hs' _ _ _ hb (hf j hj hl s' dl' hs')
    cases hwf:Region.waitsFor .any ops j i with
    | false=>rfl
    | true =>
     exfalso
     obtain ⟨oj,hoj⟩:∃o,ops[j]? = some o:=⟨_,Array.getElem?_eq_getElem (by have:=hR.le;omega)⟩;have h1:=waits_listed hoj (inv.closed j oj hoj (by rw [getD_of_in (by rw [inv.size];have:=hR.le;omega) false true];exact hl)) hwf;rw [getD_both hiu] at h1
     cases h1
  ·by_cases hji:j=i
   ·subst hji
    obtain ⟨p,ds',hj'⟩:=hn;rw [hs] at hj'
    cases hj'
    obtain ⟨g,h1,h2,h3⟩:=(show p u w'∧Fresh w u w' from hp).2;exact ⟨g,by rw [rlUpd_same];exact h1,h3⟩
   ·rw [rlUpd_ne hji]
    rw [getD_set_ne true (fun h=>hji h.symm)] at hl;obtain ⟨g,h1,h2⟩:=hN j hj hl hn;exact ⟨g,h1,Nat.lt_of_lt_of_le h2 (hsz _ _ _ hb)⟩
  ·have hold:∀m,m<n→(listed.setIfInBounds i true).getD m true=true→m≠i→IsNew specs m→∃g,blkOf (us m)=some g∧g<w.heap.size:=fun m hm hl hmi hn=>by
    rw [getD_set_ne true (fun h=>hmi h.symm)] at hl;exact hN m hm hl hn
   have hnew:IsNew specs i→∃g,blkOf u=some g∧w.heap.size≤g:=fun ⟨p,ds',hj'⟩=>by
    rw [hs] at hj'
    cases hj'
    obtain ⟨g,h1,h2,h3⟩:=(show p u w'∧Fresh w u w' from hp).2;exact ⟨g,h1,h2⟩
   by_cases hji:j=i
   ·subst hji
    have hki:k≠j:=fun h=>hjk h.symm
    rw [rlUpd_same,rlUpd_ne hki];obtain ⟨g,h1,h2⟩:=hnew hnj;obtain ⟨g',h3,h4⟩:=hold k hk hlk hki hnk;rw [h1,h3];intro h;cases h;omega
   ·by_cases hki:k=i
    ·subst hki
     rw [rlUpd_same,rlUpd_ne hji];obtain ⟨g,h1,h2⟩:=hnew hnk;obtain ⟨g',h3,h4⟩:=hold j hj hlj hji hnj;rw [h1,h3];intro h;cases h;omega
    ·rw [rlUpd_ne hji,rlUpd_ne hki]
     rw [getD_set_ne true (fun h=>hji h.symm)] at hlj;rw [getD_set_ne true (fun h=>hki h.symm)] at hlk;exact hP j k hj hk hlj hlk hjk hnj hnk
  ·by_cases hji:j=i
   ·subst hji;rw [getD_set_self];simp
   ·rw [getD_set_ne true (fun h=>hji h.symm),beq_eq_false_iff_ne.2 hji,Bool.or_false]
def relWalkB (P:Program) (ops:Array Oper) (C:Bool→World→Prop) (gt:Nat) (fin:Act→World→Prop) (R:Nat→World→World→Prop):List Oper→List (Spec × List Nat)→Nat→Facts→Act→Prop
 | [],_,_,Γ,a=>∀w,C true w→factsAll Γ w→fin a w
 | _::_,[],_,_,_=>False
 | o::l,(.ex v,ds)::ss,k,Γ,a=>(∀b w,(Region.waitsFor .any ops gt k=true→b=false)→(k=gt→b=false)→C b w→factsOf Γ ds w→relOpR (R k) P ops o a w fun u _=>u=v)∧relWalkB P ops C gt fin R l ss (k+1) Γ (a.put o.dst v)
 | o::l,(.rel p,ds)::ss,k,Γ,a=>(∀b w,(Region.waitsFor .any ops gt k=true→b=false)→(k=gt→b=false)→C b w→factsOf Γ ds w→relOpR (R k) P ops o a w p)∧∀u,relWalkB P ops C gt fin R l ss (k+1) ((k,p u)::Γ) (a.put o.dst u)
 | o::l,(.new p,ds)::ss,k,Γ,a=>(∀b w,(Region.waitsFor .any ops gt k=true→b=false)→(k=gt→b=false)→C b w→factsOf Γ ds w→relOpR (R k) P ops o a w fun u w'=>p u w'∧Fresh w u w')∧∀u,relWalkB P ops C gt fin R l ss (k+1) ((k,p u)::Γ) (a.put o.dst u)
theorem walk_stepsB {C:Bool→World→Prop} {gt:Nat} {us:Nat→Value} {a:Act} (hE:Exact specs us):∀(l:List Oper) (ss:List (Spec × List Nat)) (k:Nat) (Γ:Facts),relWalkB P ops C gt fin R l ss k Γ (lexF ops us a k)→ss=specs.drop k→(∀j,j<l.length→l[j]? = ops[k+j]?)→GOk specs us Γ →
 (∀i o,k≤i→i<k+l.length→ops[i]? = some o→∃s ds,specs[i]? = some (s,ds)∧∀b w,(Region.waitsFor .any ops gt i=true→b=false)→(i=gt→b=false)→C b w→(∀j ∈ ds,FactAt specs us j w)→relOpR (R i) P ops o (lexF ops us a i) w (s.want w))∧(∀w,C true w→(∀j,FactAt specs us j w)→News specs us→fin (lexF ops us a (k+l.length)) w)
 | [],ss,k,Γ,h,_,_,hG=>⟨fun i o h1 h2=>absurd h2 (by simp only [List.length_nil];omega),fun w hw hf hn=>h w hw (factsAll_of hf hG)⟩
 | o::l,[],k,Γ,h,_,_,_=>h.elim
 | o::l,(s,ds)::ss,k,Γ,h,hss,hl,hG=>by
  have h0:ops[k]? = some o:=by simpa using (hl 0 (by simp)).symm
  have hs0:specs[k]? = some (s,ds):=by have:=congrArg (fun x=>x[0]?) hss;simpa using this.symm
  have hss':ss=specs.drop (k+1):=by have:=congrArg List.tail hss;simpa using this
  have hl':∀j,j<l.length→l[j]? = ops[k+1+j]?:=fun j hj=>by have:=hl (j+1) (by simp;omega);simpa [Nat.add_assoc,Nat.add_comm 1 j] using this
  have hx:lexF ops us a (k+1)=(lexF ops us a k).put o.dst (us k):=by simp only [lexF,h0]
  have key:(∀b w,(Region.waitsFor .any ops gt k=true→b=false)→(k=gt→b=false)→C b w→factsOf Γ ds w→relOpR (R k) P ops o (lexF ops us a k) w (s.want w))∧∃Γ',GOk specs us Γ'∧relWalkB P ops C gt fin R l ss (k+1) Γ' (lexF ops us a (k+1)):=by
   cases s with
   | ex v =>
    have hv:=hE k v ds hs0;refine ⟨h.1,Γ,hG,?_⟩;rw [hx,hv];exact h.2
   | rel p =>
    refine ⟨h.1,(k,p (us k))::Γ,fun j x hx w hw=>?_,?_⟩
    ·rcases List.mem_cons.1 hx with hx|hx
     ·cases hx;exact hw _ _ hs0
     ·exact hG j x hx w hw
    ·rw [hx];exact h.2 _
   | new p =>
    refine ⟨h.1,(k,p (us k))::Γ,fun j x hx w hw=>?_,?_⟩
    ·rcases List.mem_cons.1 hx with hx|hx
     ·cases hx;exact hw _ _ hs0
     ·exact hG j x hx w hw
    ·rw [hx];exact h.2 _
  obtain ⟨hstep,Γ',hG',hrest⟩:=key;obtain ⟨h1,h2⟩:=walk_stepsB hE l ss (k+1) Γ' hrest hss' hl' hG';refine ⟨fun i o' hk hi ho=>?_,fun w hw hf hn=>by have:=h2 w hw hf hn;rwa [show k+1+l.length=k+(o::l).length by simp;omega] at this⟩
  by_cases hik:i=k
  ·subst hik
   have:o'=o:=Option.some.inj (ho.symm.trans h0);subst this;exact ⟨s,ds,hs0,fun b w hb1 hb2 hw hf=>hstep b w hb1 hb2 hw (factsOf_of hG ds hf)⟩
  ·exact h1 i o' (by omega) (by simp only [List.length_cons] at hi;omega) ho
theorem wp_region_relB {id gt:Nat} {C:Bool→World→Prop} {Q:Exit→Act→World→Prop} {a:Act} {w:World} {l:List Oper} (n:Nat) (ds:List (List Nat)) (ss:List Spec) (hgt:gt<n) (hm:P.follows .mixedOrders=true) (hB:relB l.toArray n ds=true) (hn:ds.length=n) (hs:ss.length=n)
 (hC0:C false w.drew) (R:Nat→World→World→Prop) (hrf:∀i w,i≠gt→R i w w) (hgg:∀o,l.toArray[gt]? = some o→o.guard=none) (hsz:∀i w w',R i w w'→w.heap.size≤w'.heap.size) (hlast:∀(i j:Nat) s dl,i<n→i≠j→Region.waitsFor .any l.toArray j i=false→(ss.zip ds)[j]? = some (s,dl)→∀u w w',R i w w'→s.ok u w→s.ok u w') (hC:∀i b w w',i≠gt→(Region.waitsFor .any l.toArray gt i=true→b=false)→C b w→R i w w'→C b w') (hCg:∀w w',C false w→R gt w w'→C true w')
 (h:relWalkB P l.toArray C gt (fun a' w'=>wpList P l.toArray Q (l.drop n) a' w') R (l.take n) (ss.zip ds) 0 [] a):(Code.region id l.toArray true).wp P Q a w:=by
 have hR:=relOk_of hB;have hnl:n≤l.length:=by simpa using hR.le
 refine wp_region_any hm ?_
 have key:=rel_gate (P:=P) (C:=C) (gt:=gt) (R:=R) (specs:=ss.zip ds) (Q:=Q) (a0:=a) (tl:=l.drop n) hR (by simp [hn,hs]) (fun i s dl hi=>by rw [List.getElem?_zip_eq_some] at hi;exact hi.2) hrf hgg hsz hlast hgt hC hCg (fun j=>by simp) (by simp)
  (fun us hE=>by
   have:=walk_stepsB (P:=P) (ops:=l.toArray) (C:=C) (gt:=gt) hE (l.take n) (ss.zip ds) 0 [] h (by simp) (fun j hj=>by simp only [List.length_take] at hj;simp [List.getElem?_take];omega) (fun j x hx=>by cases hx);simp only [Nat.zero_add,List.length_take,Nat.min_eq_left hnl] at this;exact ⟨fun i o hi ho=>this.1 i o (Nat.zero_le _) hi ho,this.2⟩)
 have hc0:∀m,m≤l.toArray.size→rlCnt (Array.replicate l.toArray.size false) m=m:=by
  intro m
  induction m with
  | zero=>intro _;rfl
  | succ m ih =>
   intro hm';simp only [rlCnt,ih (by omega)];rw [show (Array.replicate l.toArray.size false).getD m true=false from getD_in (by simp at hm' ⊢;omega) (getD_replicate_false _ _)]
   simp
 have hsz2:n+(l.toArray.size-n)=l.toArray.size:=by have:=hR.le;omega
 have h2:=key n (Array.replicate l.toArray.size false) a { w with drawn:=w.drawn+1 } (fun j=>match (ss.zip ds)[j]? with
  | some (.ex v,_)=>v
  | _=>undef) (hc0 n hR.le) ⟨by simp,fun j oj _ hl=>(by rw [getD_replicate_false] at hl;cases hl),fun t _ ht=>getD_in (by simpa using ht) (getD_replicate_false _ _)⟩ (by rw [show (Array.replicate l.toArray.size false).getD gt true=false from getD_in (by simp at hnl ⊢;omega) (getD_replicate_false _ _)];exact hC0)
  (fun j v dl hj=>by simp only [hj]) (fun j hj hl=>by rw [show (Array.replicate l.toArray.size false).getD j true=false from getD_in (by simp at hnl ⊢;omega) (getD_replicate_false _ _)] at hl;cases hl)
  (fun j hj hl=>by rw [show (Array.replicate l.toArray.size false).getD j true=false from getD_in (by simp at hnl ⊢;omega) (getD_replicate_false _ _)] at hl;cases hl)
  (fun i j hi hj hl=>by rw [show (Array.replicate l.toArray.size false).getD i true=false from getD_in (by simp at hnl ⊢;omega) (getD_replicate_false _ _)] at hl;cases hl)
  ⟨rfl,rfl,fun j o d hj ho hd hl=>(by rw [show (Array.replicate l.toArray.size false).getD j true=false from getD_in (by simp at hnl ⊢;omega) (getD_replicate_false _ _)] at hl;cases hl),fun t ht=>rfl⟩
 rw [hsz2] at h2;exact h2
end
section
variable {P:Program} {ops:Array Oper} {C:Bool→World→Prop} {gt:Nat} {fin:Act→World→Prop} {R:Nat→World→World→Prop}
theorem relWalkB_ex {o:Oper} {l:List Oper} {v:Value} {ss:List Spec} {d:List Nat} {ds:List (List Nat)} {k:Nat} {Γ:Facts} {a:Act} (hg:o.guard=none) (hk:R k=BelowR) (h1:∀b w,(Region.waitsFor .any ops gt k=true→b=false)→C b w→factsOf Γ d w→relAt P o a w fun u _=>u=v)
 (h2:∀K:Act→Prop,(∀a',relWalkB P ops C gt fin R l (ss.zip ds) (k+1) Γ a'→K a')→K (a.put o.dst v)):relWalkB P ops C gt fin R (o::l) ((Spec.ex v::ss).zip (d::ds)) k Γ a :=
 ⟨fun b w hb _ hC hF=>rt_of hk (relOp_plain hg (h1 b w hb hC hF)),h2 _ fun _ h=>h⟩
theorem relWalkB_rel {o:Oper} {l:List Oper} {p:Value→World→Prop} {ss:List Spec} {d:List Nat} {ds:List (List Nat)} {k:Nat} {Γ:Facts} {a:Act} (hg:o.guard=none) (hk:R k=BelowR) (h1:∀b w,(Region.waitsFor .any ops gt k=true→b=false)→C b w→factsOf Γ d w→relAt P o a w p)
 (h2:∀(u:Value) (K:Act→Prop),(∀a',relWalkB P ops C gt fin R l (ss.zip ds) (k+1) ((k,p u)::Γ) a'→K a')→K (a.put o.dst u)):relWalkB P ops C gt fin R (o::l) ((Spec.rel p::ss).zip (d::ds)) k Γ a :=
 ⟨fun b w hb _ hC hF=>rt_of hk (relOp_plain hg (h1 b w hb hC hF)),fun u=>h2 u _ fun _ h=>h⟩
theorem relWalkB_wr {G:World→World→Prop} {o:Oper} {l:List Oper} {p:Value→World→Prop} {ss:List Spec} {d:List Nat} {ds:List (List Nat)} {k:Nat} {Γ:Facts} {a:Act} (hg:o.guard=none) (hk:R k=G) (h1:∀b w,(Region.waitsFor .any ops gt k=true→b=false)→C b w→factsOf Γ d w→relAtR G P o a w p)
 (h2:∀(u:Value) (K:Act→Prop),(∀a',relWalkB P ops C gt fin R l (ss.zip ds) (k+1) ((k,p u)::Γ) a'→K a')→K (a.put o.dst u)):relWalkB P ops C gt fin R (o::l) ((Spec.rel p::ss).zip (d::ds)) k Γ a :=
 ⟨fun b w hb _ hC hF=>by
  rw [hk];unfold relOpR Region.wanted;rw [hg];exact h1 b w hb hC hF,fun u=>h2 u _ fun _ h=>h⟩
theorem relWalkB_gate {G:World→World→Prop} {o:Oper} {l:List Oper} {ss:List Spec} {d:List Nat} {ds:List (List Nat)} {k:Nat} {Γ:Facts} {a:Act} (hg:o.guard=none) (hk:R k=G) (hkg:k=gt) (h1:∀w,C false w→factsOf Γ d w→relAtR G P o a w fun u _=>u=undef)
 (h2:∀K:Act→Prop,(∀a',relWalkB P ops C gt fin R l (ss.zip ds) (k+1) Γ a'→K a')→K (a.put o.dst undef)):relWalkB P ops C gt fin R (o::l) ((Spec.ex undef::ss).zip (d::ds)) k Γ a :=
 ⟨fun b w _ hb hC hF=>by
  have hb2:=hb hkg;subst hb2;rw [hk];unfold relOpR Region.wanted;rw [hg];exact h1 w hC hF,h2 _ fun _ h=>h⟩
theorem relWalkB_end {ss:List Spec} {ds:List (List Nat)} {k:Nat} {Γ:Facts} {a:Act} (h:∀w,C true w→factsAll Γ w→fin a w):relWalkB P ops C gt fin R [] (ss.zip ds) k Γ a:=h
end
def RGate (m1 m2 gt:Nat) (G1 G2 S:World→World→Prop) (i:Nat):World→World→Prop:=if i=gt then S else RTwo m1 m2 G1 G2 i
def StoreG (g j RT:Nat) (G:Value→World→Prop) (w w':World):Prop:=(∃X,Blk w g RT X)∧∃u,G u w∧w'=w.setCell ⟨g,j,none⟩ u
theorem relAtR_store {P:Program} {R:World→World→Prop} {o:Oper} {a:Act} {w:World} {ty:TypeId} {x y:Operand} (ho:o.op=.store ty x y) (hz:(P.info? ty).map (·.size)=some 1) (g j:Nat) (q:Option Addr) (n c:Nat) (old:Value) (hx:a.eval x=.pointer (some ⟨g,j,none⟩)) (hy:a.eval y=.slice q n c) (hc:w.cell? ⟨g,j,none⟩=some old) (hf:w.frozen? ⟨g,j,none⟩=false) {p:Value→World→Prop}
 (hR:R w (w.setCell ⟨g,j,none⟩ (.slice q n c))) (hp:p undef (w.setCell ⟨g,j,none⟩ (.slice q n c))):relAtR R P o a w p:=by
 have hs:(Instr.storeAt ty (.pointer (some ⟨g,j,none⟩)) (.slice q n c)).run P w=.ok () (w.setCell ⟨g,j,none⟩ (.slice q n c)):=by
  simp only [Instr.storeAt,Instr.sureAddr,Sem.run_bind,Sem.run_pure,Result.andThen_ok];obtain ⟨i,hi,hi1⟩:=Option.map_eq_some_iff.1 hz
  simp [storeVar,Value.cells,storeCells,Addr.add,sizeOf,typeInfo,hi,hi1]
  rw [run_store P w ⟨g,j,none⟩ (.slice q n c) _ rfl]
  simp [hc,hf]
 unfold relAtR execOp;simp only [ho,hx,hy,Sem.run_bind,hs,Result.andThen_ok,Sem.run_pure];exact ⟨hR,hp⟩
theorem StoreG.size {g j RT:Nat} {G:Value→World→Prop} {w w':World} (h:StoreG g j RT G w w'):w'.heap.size=w.heap.size:=by
 obtain ⟨_,u,_,rfl⟩:=h
 simp
theorem GrownR.store {e k B L n g j RT:Nat} {v:Value} {cs:List Value} {G:Value→World→Prop} (hne:e≠RT) (u:Value) (w w':World) (hs:StoreG g j RT G w w') (h:GrownR e k B L v n cs u w):GrownR e k B L v n cs u w':=by
 obtain ⟨⟨X,hX⟩,u',_,rfl⟩:=hs;exact ⟨own_farT h.1 hX hne _,h.2⟩
theorem one_store {e L g j RT:Nat} {C:Array Value} {G:Value→World→Prop} (hne:e≠RT) (u:Value) (w w':World) (hs:StoreG g j RT G w w') (h:One e L C u w):One e L C u w':=by
 obtain ⟨⟨X,hX⟩,u',_,rfl⟩:=hs;obtain ⟨g',h1,h2,h3⟩:=h;exact ⟨g',h1,h2.far (fun hx=>hne (by have hx:g'=g:=hx;subst hx;exact rows_typ h2 hX)) _,h3⟩
theorem RGate.cases {m1 m2 gt:Nat} {G1 G2 S:World→World→Prop} {i:Nat} {w w':World} (h:RGate m1 m2 gt G1 G2 S i w w'):(i=gt∧S w w')∨(i=m1∧G1 w w')∨(i=m2∧G2 w w')∨Below w.heap.size w w':=by
 unfold RGate at h
 split at h
 ·exact .inl ⟨by assumption,h⟩
 ·exact .inr h.cases
section
variable {m1 m2 gt k:Nat} {G1 G2 S:World→World→Prop} {p:Value→World→Prop} {q:Nat→Bool}
theorem lastb_all (h:Lasts p) (h1:∀u w w',G1 w w'→p u w→p u w') (h2:∀u w w',G2 w w'→p u w→p u w') (h3:∀u w w',S w w'→p u w→p u w'):∀i,i≠k→q i=false→∀u w w',RGate m1 m2 gt G1 G2 S i w w'→p u w→p u w':=fun i _ _ u w w' hR hp=>by
 rcases hR.cases with ⟨_,hR⟩|⟨_,hR⟩|⟨_,hR⟩|hR
 ·exact h3 u w w' hR hp
 ·exact h1 u w w' hR hp
 ·exact h2 u w w' hR hp
 ·exact h u w w' hR hp
theorem lastb_fst (h:Lasts p) (h2:∀u w w',G2 w w'→p u w→p u w') (h3:∀u w w',S w w'→p u w→p u w'):∀i,i≠m1→q i=false→∀u w w',RGate m1 m2 gt G1 G2 S i w w'→p u w→p u w':=fun i hi _ u w w' hR hp=>by
 rcases hR.cases with ⟨_,hR⟩|⟨hx,_⟩|⟨_,hR⟩|hR
 ·exact h3 u w w' hR hp
 ·exact absurd hx hi
 ·exact h2 u w w' hR hp
 ·exact h u w w' hR hp
theorem lastb_snd (h:Lasts p) (h1:∀u w w',G1 w w'→p u w→p u w') (h3:∀u w w',S w w'→p u w→p u w'):∀i,i≠m2→q i=false→∀u w w',RGate m1 m2 gt G1 G2 S i w w'→p u w→p u w':=fun i hi _ u w w' hR hp=>by
 rcases hR.cases with ⟨_,hR⟩|⟨_,hR⟩|⟨hx,_⟩|hR
 ·exact h3 u w w' hR hp
 ·exact h1 u w w' hR hp
 ·exact absurd hx hi
 ·exact h u w w' hR hp
end
section
variable {P:Program}
theorem wp_region_gate2 {id:Nat} {Q:Exit→Act→World→Prop} {a:Act} {w:World} {l:List Oper} (n:Nat) (ds:List (List Nat)) (form:List Form) (C:Bool→World→Prop) (m1 m2 gt:Nat) (e1 k1 B1 n1:Nat) (xs1:List Value) (v1:Value) (e2 k2 B2 n2:Nat) (xs2:List Value) (v2:Value) (g j RT:Nat) (G:Value→World→Prop) (hm:P.follows .mixedOrders=true) (hB:relB l.toArray n ds=true) (hn:ds.length=n) (hs:form.length=n)
 (hgt:gt<n) (hm1:Region.waitsFor .any l.toArray gt m1=true) (hm2:Region.waitsFor .any l.toArray gt m2=true) (hgg:(l.toArray[gt]?).map (fun o=>o.guard)=some none)
 (hC0:C false w.drew) (hCb:∀b w w',C b w→Below w.heap.size w w'→C b w') (hC1:∀w w',C false w→GOwn e1 k1 B1 n1 xs1 v1 w w'→C false w') (hC2:∀w w',C false w→GOwn e2 k2 B2 n2 xs2 v2 w w'→C false w') (hCg:∀w w',C false w→StoreG g j RT G w w'→C true w')
 (hlast:formLastT (RGate m1 m2 gt (GOwn e1 k1 B1 n1 xs1 v1) (GOwn e2 k2 B2 n2 xs2 v2) (StoreG g j RT G)) (fun k i=>Region.waitsFor .any l.toArray k i) 0 form)
 (h:ExSpecs form fun ss=>relWalkB P l.toArray C gt (fun a' w'=>wpList P l.toArray Q (l.drop n) a' w') (RGate m1 m2 gt (GOwn e1 k1 B1 n1 xs1 v1) (GOwn e2 k2 B2 n2 xs2 v2) (StoreG g j RT G)) (l.take n) (ss.zip ds) 0 [] a):(Code.region id l.toArray true).wp P Q a w:=by
 obtain ⟨ss,h1,h2,h3⟩:=exSpecs_ofT form _ 0 hlast h;refine wp_region_relB (C:=C) (gt:=gt) n ds ss hgt hm hB hn (h1.trans hs) hC0 _ (fun i w hi=>?_) (fun o ho=>?_) (fun i w w' h=>?_) (fun i j s dl hi hij hwf hj u w w' hR ho=>?_) (fun i b w w' hi hb hc hR=>?_) (fun w w' hc hR=>?_) h3
 ·unfold RGate
  rw [if_neg hi];unfold RTwo
  repeat' split
  ·exact GOwn.of_below _ _ (Below.refl _ _)
  ·exact GOwn.of_below _ _ (Below.refl _ _)
  ·exact Below.refl _ _
 ·rw [ho] at hgg
  simpa using hgg
 ·rcases h.cases with ⟨_,h⟩|⟨_,h⟩|⟨_,h⟩|h
  ·rw [h.size];exact Nat.le_refl _
  ·exact h.1.size
  ·exact h.1.size
  ·exact h.size
 ·have hj':=(List.getElem?_zip_eq_some.1 hj).1
  have:=h2 j s hj';rw [Nat.zero_add] at this;exact this i hij hwf u w w' hR ho
 ·rcases hR.cases with ⟨hx,_⟩|⟨hx,hR2⟩|⟨hx,hR2⟩|hR2
  ·exact absurd hx hi
  ·have:=hb (by rw [hx];exact hm1);subst this;exact hC1 w w' hc hR2
  ·have:=hb (by rw [hx];exact hm2);subst this;exact hC2 w w' hc hR2
  ·exact hCb b w w' hc hR2
 ·have hR2:StoreG g j RT G w w':=by
   unfold RGate at hR;rw [if_pos rfl] at hR;exact hR
  exact hCg w w' hc hR2
end
end Go.Proofs.YtboagmbmmoomiaaGreatDoor
