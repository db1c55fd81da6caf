/-
  Rel's law for a drawn region with a counter's box: each operation adds a few, and there are so many operations.
-/
import Derived.Test.YtboagmbmmoomiaaGreatDoorRelRows
set_option linter.unusedVariables false
set_option linter.unusedSimpArgs false
set_option maxRecDepth 100000
set_option maxHeartbeats 4000000
namespace Go.Proofs.YtboagmbmmoomiaaGreatDoor
open Go.RowKit
section
variable {P:Program} {ops:Array Oper} {fin:Act→World→Prop} {specs:List (Spec × List Nat)} {R:Nat→World→World→Prop}
theorem rel_anyN {D:Nat→World→Prop} {n:Nat} {ds:List (List Nat)} {Q:Exit→Act→World→Prop} {a0:Act} {tl:List Oper} (hR:RelOk ops n ds) (hlen:specs.length=n) (hds:∀(i:Nat) s dl,specs[i]? = some (s,dl)→ds[i]? = some dl)
 (hrf:∀i w,R i w w) (hsz:∀i w w',R i w w'→w.heap.size≤w'.heap.size) (hlast:∀(i j:Nat) s dl,i<n→i≠j→Region.waitsFor .any ops j i=false→specs[j]? = some (s,dl)→∀u w w',R i w w'→s.ok u w→s.ok u w') (hC:∀f i w w',D (f+1) w→R i w w'→D f w') (htl:∀j,tl[j]? = ops[n+j]?) (htn:tl.length=ops.size-n)
 (hstep:∀us,Exact specs us→(∀(i:Nat) o,i<n→ops[i]? = some o→∃s dl,specs[i]? = some (s,dl)∧∀w,(∃f,D f w)→(∀j ∈ dl,FactAt specs us j w)→relOpR (R i) P ops o (lexF ops us a0 i) w (s.want w))∧(∀w,(∃f,D f w)→(∀j,FactAt specs us j w)→News specs us→wpList P ops Q tl (lexF ops us a0 n) w)) :
 ∀(f:Nat) (listed:Array Bool) (a:Act) (w:World) (us:Nat→Value),rlCnt listed n=f→HeadInv .any ops n listed→D f w→Exact specs us→(∀j,j<n→listed.getD j true=true→FactAt specs us j w)→(∀j,j<n→listed.getD j true=true→IsNew specs j→∃g,blkOf (us j)=some g∧g<w.heap.size)→(∀i j,i<n→j<n→listed.getD i true=true→listed.getD j true=true→i≠j→IsNew specs i→IsNew specs j→blkOf (us i)≠blkOf (us j))→FrIs ops n us (fun j=>listed.getD j true) a0 a→wpAny P .any ops Q (f+(ops.size-n)) listed a w:=by
 intro f
 induction f with
 | zero =>
  intro listed a w us hc inv hw hE hf hN hP hfr;have hall:=rlCnt_zero n hc
  have hl:listed=Array.ofFn (n:=ops.size) fun i=>decide (i.val<n):=by
   apply Array.ext (by simp [inv.size])
   intro t h1 h2;simp only [Array.getElem_ofFn]
   by_cases ht:t<n
   ·have:=hall t ht
    rw [show listed.getD t true=listed[t] by simp [h1]] at this;rw [this];simp [ht]
   ·have:=inv.tail t (by omega) (by rw [←inv.size];exact h1)
    rw [show listed.getD t true=listed[t] by simp [h1]] at this;rw [this];simp [ht]
  have ha:a=lexF ops us a0 n:=hfr.same ((lexF_is hR.apart hR.le us a0 n (Nat.le_refl _)).congr (fun _ _ _=>rfl) fun j hj=>by rw [hall j hj];simp [hj])
  have hfa:∀j,FactAt specs us j w:=fun j=>by
   by_cases hj:j<n
   ·exact hf j hj (hall j hj)
   ·intro s dl hs
    rw [List.getElem?_eq_none (by omega)] at hs
    cases hs
  have hlt:∀j,IsNew specs j→j<n:=fun j ⟨p,ds',hj⟩=>by
   rw [←hlen];exact (List.getElem?_eq_some_iff.1 hj).1
  have:=(hstep us hE).2 w ⟨_,hw⟩ hfa fun i j hij hi hj=>hP i j (hlt i hi) (hlt j hj) (hall i (hlt i hi)) (hall j (hlt j hj)) hij hi hj
  rw [←ha] at this;rw [Nat.zero_add,←htn];exact wpAny_of_seq tl n listed a w htl (by rw [htn,hl];exact hR.seq) this
 | succ f ih =>
  intro listed a w us hc inv hw hE hf hN hP hfr;rw [show f+1+(ops.size-n)=(f+(ops.size-n))+1 by omega];obtain ⟨k,hk,hku,hkl⟩:=rlCnt_least n (show rlCnt listed n≠0 by omega)
  have hkr:k ∈ Region.ready .any ops listed:=by
   obtain ⟨o,ho⟩:∃o,ops[k]? = some o:=⟨_,Array.getElem?_eq_getElem (by have:=hR.le;omega)⟩;refine mem_ready.2 ⟨hku,o,ho,fun e he hb=>?_⟩;have h1:=hR.before k o hk ho e he hb;rw [getD_of_in (by rw [inv.size];have:=hR.le;omega) false true];exact hkl _ h1
  refine ⟨fun h0=>(by rw [h0] at hkr;cases hkr),fun i hi=>?_⟩;obtain ⟨hiu,o,ho,hall⟩:=mem_ready.1 hi
  have hin:i<n:=by
   rcases Nat.lt_or_ge i n with h|h
   ·exact h
   ·rcases hR.tail with ht|⟨hs,hch⟩
    ·have:=(Array.getElem?_eq_some_iff.1 ho).1;omega
    ·by_cases hns:n<ops.size
     ·exact absurd hi (tail_waits hs hch hns inv _ k rfl hk hku i h)
     ·have:=(Array.getElem?_eq_some_iff.1 ho).1;omega
  obtain ⟨s,dl,hs,hst⟩:=(hstep us hE).1 i o hin ho
  have hfd:∀j ∈ dl,FactAt specs us j w:=fun j hj=>by
   have h1:=waits_listed ho hall (hR.deps i dl hin (hds i s dl hs) j hj)
   by_cases hjn:j<n
   ·exact hf j hjn (by rw [getD_of_in (by rw [inv.size];have:=hR.le;omega) true false];exact h1)
   ·intro s' dl' hs'
    rw [List.getElem?_eq_none (by omega)] at hs'
    cases hs'
  have hop:=hst w ⟨_,hw⟩ hfd;have hfl:=lexF_is hR.apart hR.le us a0 i (by omega)
  have hop':relOpR (R i) P ops o a w (s.want w):=relOpR_congr (fun cs b=>hR.sel i o cs b ho) (fun t ht=>by
   by_cases hx:∃(j:Nat) (oj:Oper),j<n∧ops[j]? = some oj∧oj.dst=some t
   ·obtain ⟨j,oj,hj,hoj,hd⟩:=hx
    obtain ⟨h1,h2⟩:=hR.looks i j o oj t hin hj ho hoj hd ht;have h3:=waits_listed ho hall h2;have h4:listed.getD j true=true:=by rw [getD_of_in (by rw [inv.size];have:=hR.le;omega) true false];exact h3
    by_cases hts:t<a0.tmps.size
    ·rw [hfl.done j oj t hj hoj hd (by simpa using h1) hts,hfr.done j oj t hj hoj hd h4 hts]
    ·rw [show (lexF ops us a0 i).tmps[t]? = none from Array.getElem?_eq_none (by rw [hfl.size];exact Nat.le_of_not_lt hts),show a.tmps[t]? = none from Array.getElem?_eq_none (by rw [hfr.size];exact Nat.le_of_not_lt hts)]
   ·rw [hfl.out t fun j oj hj hoj _ hd=>hx ⟨j,oj,hj,hoj,hd⟩,hfr.out t fun j oj hj hoj _ hd=>hx ⟨j,oj,hj,hoj,hd⟩]) hop
  refine wpOp_of_relR (hrf i) ho hop' fun u w' hb hp=>?_
  have hE':Exact specs (rlUpd us i u):=fun j v dl' hj=>by
   by_cases hji:j=i
   ·subst hji
    rw [hs] at hj
    cases hj
    rw [rlUpd_same];exact hp
   ·rw [rlUpd_ne hji];exact hE j v dl' hj
  refine ih (listed.setIfInBounds i true) (a.put o.dst u) w' (rlUpd us i u) (by have:=rlCnt_set hiu n hin;omega) (inv.set hi hin) (hC f i w w' hw hb) hE' (fun j hj hl=>?_) (fun j hj hl hn=>?_) (fun j k hj hk hlj hlk hjk hnj hnk=>?_) (hfr.put hR.apart hin ho u fun j hj=>?_)
  ·intro s' dl' hs'
   by_cases hji:j=i
   ·subst hji
    rw [hs] at hs'
    cases hs'
    rw [rlUpd_same];exact Spec.want_ok hp
   ·rw [rlUpd_ne hji]
    rw [getD_set_ne true (fun h=>hji h.symm)] at hl;refine hlast i j s' dl' hin (fun h=>hji h.symm) ?_ hs' _ _ _ hb (hf j hj hl s' dl' hs')
    cases hwf:Region.waitsFor .any ops j i with
    | false=>rfl
    | true =>
     exfalso
     obtain ⟨oj,hoj⟩:∃o,ops[j]? = some o:=⟨_,Array.getElem?_eq_getElem (by have:=hR.le;omega)⟩;have h1:=waits_listed hoj (inv.closed j oj hoj (by rw [getD_of_in (by rw [inv.size];have:=hR.le;omega) false true];exact hl)) hwf;rw [getD_both hiu] at h1
     cases h1
  ·by_cases hji:j=i
   ·subst hji
    obtain ⟨p,ds',hj'⟩:=hn;rw [hs] at hj'
    cases hj'
    obtain ⟨g,h1,h2,h3⟩:=(show p u w'∧Fresh w u w' from hp).2;exact ⟨g,by rw [rlUpd_same];exact h1,h3⟩
   ·rw [rlUpd_ne hji]
    rw [getD_set_ne true (fun h=>hji h.symm)] at hl;obtain ⟨g,h1,h2⟩:=hN j hj hl hn;exact ⟨g,h1,Nat.lt_of_lt_of_le h2 (hsz _ _ _ hb)⟩
  ·have hold:∀m,m<n→(listed.setIfInBounds i true).getD m true=true→m≠i→IsNew specs m→∃g,blkOf (us m)=some g∧g<w.heap.size:=fun m hm hl hmi hn=>by
    rw [getD_set_ne true (fun h=>hmi h.symm)] at hl;exact hN m hm hl hn
   have hnew:IsNew specs i→∃g,blkOf u=some g∧w.heap.size≤g:=fun ⟨p,ds',hj'⟩=>by
    rw [hs] at hj'
    cases hj'
    obtain ⟨g,h1,h2,h3⟩:=(show p u w'∧Fresh w u w' from hp).2;exact ⟨g,h1,h2⟩
   by_cases hji:j=i
   ·subst hji
    have hki:k≠j:=fun h=>hjk h.symm
    rw [rlUpd_same,rlUpd_ne hki];obtain ⟨g,h1,h2⟩:=hnew hnj;obtain ⟨g',h3,h4⟩:=hold k hk hlk hki hnk;rw [h1,h3];intro h;cases h;omega
   ·by_cases hki:k=i
    ·subst hki
     rw [rlUpd_same,rlUpd_ne hji];obtain ⟨g,h1,h2⟩:=hnew hnk;obtain ⟨g',h3,h4⟩:=hold j hj hlj hji hnj;rw [h1,h3];intro h;cases h;omega
    ·rw [rlUpd_ne hji,rlUpd_ne hki]
     rw [getD_set_ne true (fun h=>hji h.symm)] at hlj;rw [getD_set_ne true (fun h=>hki h.symm)] at hlk;exact hP j k hj hk hlj hlk hjk hnj hnk
  ·by_cases hji:j=i
   ·subst hji;rw [getD_set_self];simp
   ·rw [getD_set_ne true (fun h=>hji h.symm),beq_eq_false_iff_ne.2 hji,Bool.or_false]
theorem wp_region_relN {id:Nat} {Q:Exit→Act→World→Prop} {a:Act} {w:World} {l:List Oper} (n:Nat) (ds:List (List Nat)) (ss:List Spec) (D:Nat→World→Prop) (hm:P.follows .mixedOrders=true) (hB:relB l.toArray n ds=true) (hn:ds.length=n) (hs:ss.length=n)
 (hC0:D n w.drew) (R:Nat→World→World→Prop) (hrf:∀i w,R i w w) (hsz:∀i w w',R i w w'→w.heap.size≤w'.heap.size) (hlast:∀(i j:Nat) s dl,i<n→i≠j→Region.waitsFor .any l.toArray j i=false→(ss.zip ds)[j]? = some (s,dl)→∀u w w',R i w w'→s.ok u w→s.ok u w') (hC:∀f i w w',D (f+1) w→R i w w'→D f w')
 (h:relWalkR P l.toArray (fun w=>∃f,D f w) (fun a' w'=>wpList P l.toArray Q (l.drop n) a' w') R (l.take n) (ss.zip ds) 0 [] [] a):(Code.region id l.toArray true).wp P Q a w:=by
 have hR:=relOk_of hB;have hnl:n≤l.length:=by simpa using hR.le
 refine wp_region_any hm ?_
 have key:=rel_anyN (P:=P) (D:=D) (R:=R) (specs:=ss.zip ds) (Q:=Q) (a0:=a) (tl:=l.drop n) hR (by simp [hn,hs]) (fun i s dl hi=>by rw [List.getElem?_zip_eq_some] at hi;exact hi.2) hrf hsz hlast hC (fun j=>by simp) (by simp)
  (fun us hE=>by
   have:=walk_stepsR (P:=P) (ops:=l.toArray) (C:=fun w=>∃f,D f w) hE (l.take n) (ss.zip ds) 0 [] [] h (by simp) (fun j hj=>by simp only [List.length_take] at hj;simp [List.getElem?_take];omega) (fun j x hx=>by cases hx) ⟨fun u hu=>(by cases hu),fun _=>List.Pairwise.nil⟩;simp only [Nat.zero_add,List.length_take,Nat.min_eq_left hnl] at this;exact ⟨fun i o hi ho=>this.1 i o (Nat.zero_le _) hi ho,this.2⟩)
 have hc0:∀m,m≤l.toArray.size→rlCnt (Array.replicate l.toArray.size false) m=m:=by
  intro m
  induction m with
  | zero=>intro _;rfl
  | succ m ih =>
   intro hm';simp only [rlCnt,ih (by omega)];rw [show (Array.replicate l.toArray.size false).getD m true=false from getD_in (by simp at hm' ⊢;omega) (getD_replicate_false _ _)]
   simp
 have hsz2:n+(l.toArray.size-n)=l.toArray.size:=by have:=hR.le;omega
 have h2:=key n (Array.replicate l.toArray.size false) a { w with drawn:=w.drawn+1 } (fun j=>match (ss.zip ds)[j]? with
  | some (.ex v,_)=>v
  | _=>undef) (hc0 n hR.le) ⟨by simp,fun j oj _ hl=>(by rw [getD_replicate_false] at hl;cases hl),fun t _ ht=>getD_in (by simpa using ht) (getD_replicate_false _ _)⟩ hC0
  (fun j v dl hj=>by simp only [hj]) (fun j hj hl=>by rw [show (Array.replicate l.toArray.size false).getD j true=false from getD_in (by simp at hnl ⊢;omega) (getD_replicate_false _ _)] at hl;cases hl)
  (fun j hj hl=>by rw [show (Array.replicate l.toArray.size false).getD j true=false from getD_in (by simp at hnl ⊢;omega) (getD_replicate_false _ _)] at hl;cases hl)
  (fun i j hi hj hl=>by rw [show (Array.replicate l.toArray.size false).getD i true=false from getD_in (by simp at hnl ⊢;omega) (getD_replicate_false _ _)] at hl;cases hl)
  ⟨rfl,rfl,fun j o d hj ho hd hl=>(by rw [show (Array.replicate l.toArray.size false).getD j true=false from getD_in (by simp at hnl ⊢;omega) (getD_replicate_false _ _)] at hl;cases hl),fun t ht=>rfl⟩
 rw [hsz2] at h2;exact h2
end
structure AtR (c bn:Nat) (w w':World):Prop where
 os:w'.os=w.os
 tape:w'.tape=w.tape
 output:w'.output=w.output
 size:w.heap.size≤w'.heap.size
 other:∀j,j<w.heap.size→j≠bn→w'.heap[j]? = w.heap[j]?
 cnt:∀k:Nat,Blk w bn 3 #[.int .i64 (k:Int)]→∃k':Nat,Blk w' bn 3 #[.int .i64 (k':Int)]∧k'≤k+c
section
variable {c c' bn:Nat} {w w' w'' W W':World}
theorem AtR.of_below (h:Below w.heap.size w w'):AtR c bn w w':=⟨h.os,h.tape,h.output,h.size,fun j hj _=>h.block j hj,fun k hk=>⟨k,hk.below h hk.lt,by omega⟩⟩
theorem AtR.below (h:AtR c bn w w') {B:Nat} (hB:B≤bn) (hs:B≤w.heap.size):Below B w w':=⟨h.os,h.tape,h.output,h.size,fun j hj=>h.other j (by omega) (by omega)⟩
theorem AtR.trans (h:AtR c bn w w') (h2:AtR c' bn w' w''):AtR (c+c') bn w w'':=⟨h2.os.trans h.os,h2.tape.trans h.tape,h2.output.trans h.output,Nat.le_trans h.size h2.size,fun j hj hn=>(h2.other j (Nat.lt_of_lt_of_le hj h.size) hn).trans (h.other j hj hn),fun k hk=>by
 obtain ⟨k',h3,h4⟩:=h.cnt k hk;obtain ⟨k'',h5,h6⟩:=h2.cnt k' h3;exact ⟨k'',h5,by omega⟩⟩
theorem AtR.mono (h:AtR c bn w w') (hc:c≤c'):AtR c' bn w w':=⟨h.os,h.tape,h.output,h.size,h.other,fun k hk=>by
 obtain ⟨k',h3,h4⟩:=h.cnt k hk;exact ⟨k',h3,by omega⟩⟩
theorem AtR.far (h:AtR c bn w w') {q j:Nat} (hq:w.heap.size≤q) (hn:q≠bn) (u:Value):AtR c bn w (w'.setCell ⟨q,j,none⟩ u):=⟨h.os,h.tape,h.output,by simpa using h.size,fun i hi hne=>(Below.heap_setCell w' _ _ i (by show i≠q;omega)).trans (h.other i hi hne),fun k hk=>by
 obtain ⟨k',h3,h4⟩:=h.cnt k hk;exact ⟨k',h3.far (by show bn≠q;omega) u,h4⟩⟩
theorem AtR.blk (h:AtR c bn w w') {g T:Nat} {C:Array Value} (hb:Blk w g T C) (hg:g≠bn):Blk w' g T C:=(h.other g hb.lt hg).trans hb
theorem AtR.own (h:AtR c bn w w') {B e k n:Nat} {v:Value} {xs:List Value} (ho:w.ownsRow B e k v n xs) (hB:v.ownBlock≠some bn):w'.ownsRow B e k v n xs:=by
 refine ⟨ho.1,?_⟩
 rcases ho.2 with h2|⟨g,cap,cur,rfl,hg,hh,rest⟩
 ·exact .inl h2
 ·exact .inr ⟨g,cap,cur,rfl,hg,h.blk (show Blk w g e cur from hh) (fun hx=>hB (by rw [←hx];simp [Value.ownBlock])),rest⟩
end
structure TW (n₀ gt bn ba:Nat) (T:Array Value) (w:World) (k:Nat) (W:World):Prop where
 tree:Blk W gt 24 T
 cnt:∃j:Nat,Blk W bn 3 #[.int .i64 (j:Int)]∧j≤k
 fn:Blk W ba 46 #[.func (.func 10) #[] #[.pointer (some ⟨bn,0,none⟩),.pointer (some ⟨gt,0,none⟩)]]
 bel:Below n₀ w W
 le:n₀≤gt∧gt<bn∧bn<ba
section
variable {n₀ gt bn ba c k k' B:Nat} {T:Array Value} {w W W':World}
theorem TW.at_ (h:TW n₀ gt bn ba T w k W) (ha:AtR c bn W W'):TW n₀ gt bn ba T w (k+c) W':=by
 obtain ⟨h1,h2,h3⟩:=h.le;have hs:=h.tree.lt;obtain ⟨j,hj,hk⟩:=h.cnt;obtain ⟨j',hj',hk'⟩:=ha.cnt j hj;exact ⟨ha.blk h.tree (by omega),⟨j',hj',by omega⟩,ha.blk h.fn (by omega),h.bel.trans (ha.below (by omega) (by omega)),h.le⟩
theorem TW.below (h:TW n₀ gt bn ba T w k W) (hb:Below W.heap.size W W'):TW n₀ gt bn ba T w k W':=by
 obtain ⟨h1,h2,h3⟩:=h.le;have hs:=h.tree.lt;obtain ⟨j,hj,hk⟩:=h.cnt;exact ⟨h.tree.below hb h.tree.lt,⟨j,hj.below hb hj.lt,hk⟩,h.fn.below hb h.fn.lt,h.bel.trans (hb.mono (by omega)),h.le⟩
theorem TW.mono (h:TW n₀ gt bn ba T w k W) (hk:k≤k'):TW n₀ gt bn ba T w k' W:=by
 obtain ⟨j,hj,hk2⟩:=h.cnt;exact ⟨h.tree,⟨j,hj,by omega⟩,h.fn,h.bel,h.le⟩
theorem TW.far (h:TW n₀ gt bn ba T w k W) {q j:Nat} (hq:ba<q) (u:Value):TW n₀ gt bn ba T w k (W.setCell ⟨q,j,none⟩ u):=by
 obtain ⟨h1,h2,h3⟩:=h.le;obtain ⟨j',hj',hk2⟩:=h.cnt;exact ⟨h.tree.far (by show gt≠q;omega) u,⟨j',hj'.far (by show bn≠q;omega) u,hk2⟩,h.fn.far (by show ba≠q;omega) u,h.bel.setCell (by show n₀≤q;omega) u,h.le⟩
end
def RAt (c bn m:Nat) (G:World→World→Prop):Nat→World→World→Prop:=fun i=>if i=m then G else AtR c bn
section
variable {P:Program} {ops:Array Oper} {C:World→Prop} {fin:Act→World→Prop} {R:Nat→World→World→Prop}
theorem wp_region_at {id:Nat} {Q:Exit→Act→World→Prop} {a:Act} {w:World} {l:List Oper} (n:Nat) (ds:List (List Nat)) (form:List Form) (m c bn:Nat) (G:World→World→Prop) (I:Nat→World→Prop) (k:Nat) (hm:P.follows .mixedOrders=true) (hB:relB l.toArray n ds=true) (hn:ds.length=n) (hs:form.length=n)
 (hG:∀w,G w w) (hGs:∀w w',G w w'→w.heap.size≤w'.heap.size)
 (hC0:I k w.drew) (hI:∀k w w',I k w→AtR c bn w w'→I (k+c) w') (hIG:∀k w w',I k w→G w w'→I (k+c) w') (hlast:formLastT (RAt c bn m G) (fun k i=>Region.waitsFor .any l.toArray k i) 0 form)
 (h:ExSpecs form fun ss=>relWalkR P l.toArray (fun w=>∃f,f≤n∧I (k+c*(n-f)) w) (fun a' w'=>wpList P l.toArray Q (l.drop n) a' w') (RAt c bn m G) (l.take n) (ss.zip ds) 0 [] [] a):(Code.region id l.toArray true).wp P Q a w:=by
 obtain ⟨ss,h1,h2,h3⟩:=exSpecs_ofT form _ 0 hlast h;refine wp_region_relN n ds ss (fun f w=>f≤n∧I (k+c*(n-f)) w) hm hB hn (h1.trans hs) ⟨Nat.le_refl _,by rw [Nat.sub_self];exact hC0⟩ (RAt c bn m G) (fun i w=>?_) (fun i w w' h=>?_) (fun i j s dl hi hij hwf hj u w w' hR ho=>?_) (fun f i w w' hc hR=>?_) h3
 ·unfold RAt
  split
  ·exact hG w
  ·exact AtR.of_below (Below.refl _ _)
 ·unfold RAt at h
  split at h
  ·exact hGs _ _ h
  ·exact h.size
 ·have hj':=(List.getElem?_zip_eq_some.1 hj).1
  have:=h2 j s hj';rw [Nat.zero_add] at this;exact this i (fun h=>hij h) hwf u w w' hR ho
 ·refine ⟨by omega,?_⟩
  rw [show k+c*(n-f)=k+c*(n-(f+1))+c by rw [show n-f=n-(f+1)+1 by omega,Nat.mul_succ,Nat.add_assoc]];unfold RAt at hR
  split at hR
  ·exact hIG _ _ _ hc.2 hR
  ·exact hI _ _ _ hc.2 hR
theorem relWalkN_ex {o:Oper} {l:List Oper} {v:Value} {ss:List Spec} {d:List Nat} {ds:List (List Nat)} {k:Nat} {Γ:Facts} {U:List Value} {a:Act} (hg:o.guard=none) (hk:∀w w',Below w.heap.size w w'→R k w w') (h1:∀w,C w→factsOf Γ d w→relAt P o a w fun u _=>u=v)
 (h2:∀K:Act→Prop,(∀a',relWalkR P ops C fin R l (ss.zip ds) (k+1) Γ U a'→K a')→K (a.put o.dst v)):relWalkR P ops C fin R (o::l) ((Spec.ex v::ss).zip (d::ds)) k Γ U a :=
 ⟨fun w hC hF=>relOpR_of hk (relOp_plain hg (h1 w hC hF)),h2 _ fun _ h=>h⟩
theorem relWalkN_rel {o:Oper} {l:List Oper} {p:Value→World→Prop} {ss:List Spec} {d:List Nat} {ds:List (List Nat)} {k:Nat} {Γ:Facts} {U:List Value} {a:Act} (hg:o.guard=none) (hk:∀w w',Below w.heap.size w w'→R k w w') (h1:∀w,C w→factsOf Γ d w→relAt P o a w p)
 (h2:∀(u:Value) (K:Act→Prop),(∀a',relWalkR P ops C fin R l (ss.zip ds) (k+1) ((k,p u)::Γ) U a'→K a')→K (a.put o.dst u)):relWalkR P ops C fin R (o::l) ((Spec.rel p::ss).zip (d::ds)) k Γ U a :=
 ⟨fun w hC hF=>relOpR_of hk (relOp_plain hg (h1 w hC hF)),fun u=>h2 u _ fun _ h=>h⟩
theorem relWalkN_at {G:World→World→Prop} {o:Oper} {l:List Oper} {p:Value→World→Prop} {ss:List Spec} {d:List Nat} {ds:List (List Nat)} {k:Nat} {Γ:Facts} {U:List Value} {a:Act} (hg:o.guard=none) (hk:R k=G) (h1:∀w,C w→factsOf Γ d w→relAtR G P o a w p)
 (h2:∀(u:Value) (K:Act→Prop),(∀a',relWalkR P ops C fin R l (ss.zip ds) (k+1) ((k,p u)::Γ) U a'→K a')→K (a.put o.dst u)):relWalkR P ops C fin R (o::l) ((Spec.rel p::ss).zip (d::ds)) k Γ U a :=
 relWalkT_wr hg hk h1 h2
end
def LastsA (c bn:Nat) (p:Value→World→Prop):Prop:=∀u w w',AtR c bn w w'→p u w→p u w'
theorem RAt.of_below {c bn m i:Nat} {G:World→World→Prop} (hG:∀w w':World,Below w.heap.size w w'→G w w') {w w':World} (h:Below w.heap.size w w'):RAt c bn m G i w w':=by
 unfold RAt
 split
 ·exact hG _ _ h
 ·exact AtR.of_below h
theorem LastsA.at_ {c bn m k:Nat} {wf:Nat→Nat→Bool} {G:World→World→Prop} {p:Value→World→Prop} (h:LastsA c bn p) (hG:∀u w w',G w w'→p u w→p u w'):∀i,i≠k→wf k i=false→∀u w w',RAt c bn m G i w w'→p u w→p u w':=fun i _ _ u w w' hR=>by
 unfold RAt at hR
 split at hR
 ·exact hG u w w' hR
 ·exact h u w w' hR
theorem LastsA.one {c bn m k:Nat} {wf:Nat→Nat→Bool} {p:Value→World→Prop} (h:LastsA c bn p):∀i,i≠k→wf k i=false→∀u w w',RAt c bn m (AtR c bn) i w w'→p u w→p u w':=h.at_ h
def IntIn (a b:Int) (u:Value) (_:World):Prop:=∃y:Int,u=.int .i64 y∧a≤y∧y≤b
theorem IntIn.lasts {c bn:Nat} (a b:Int):LastsA c bn (IntIn a b):=fun _ _ _ _ h=>h
end Go.Proofs.YtboagmbmmoomiaaGreatDoor
