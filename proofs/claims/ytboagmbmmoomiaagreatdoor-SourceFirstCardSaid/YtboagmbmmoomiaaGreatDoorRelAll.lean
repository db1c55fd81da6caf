/-
  A range over an iterator that keeps what is left to do in a box of its own.
  A region that draws its order, whose operations only read or make new memory: each operation is looked at once. What an operation yields is said by one value, or by a condition on value and world that lasts while memory only grows.
  A region that draws its order, one of whose operations is a call that panics: the operations ahead of it only read or make memory.
-/
import Derived.RangeFuncNested
import Derived.RangeFuncBound
import Derived.RangeFuncCalls
import Derived.RangeFuncLeaves
import Derived.RangeFuncFrom
import Derived.RangeFuncBox
import Derived.StillTail
import Derived.Laws.Rows
import Derived.Below
set_option linter.unusedVariables false
set_option maxRecDepth 100000
set_option maxHeartbeats 4000000
namespace Go.Proofs.YtboagmbmmoomiaaGreatDoor
open Go.RowKit
def Way (D:Nat) (r:Loop) (W:World):Prop:=W.heap[D+1]? = some (.loop r)∧W.heap[D]? = some (.deferred (some []))
theorem Way.kept {D:Nat} {r:Loop} {A B:World} (h:Way D r A) (hk:KeepsOthers A B):Way D r B:=⟨hk.same _ _ h.1 rfl,hk.same _ _ h.2 rfl⟩
theorem Way.turn {D:Nat} {r:Loop} {A:World} (h:Way D r A) (r':Loop):Way D r' (A.putObj (D+1) (.loop r')) :=
 ⟨World.putObj_heap_same (Array.getElem?_eq_some_iff.1 h.1).1,(World.putObj_heap_other (by omega)).trans h.2⟩
theorem Way.lt {D:Nat} {r:Loop} {A:World} (h:Way D r A):D+1<A.heap.size:=(Array.getElem?_eq_some_iff.1 h.1).1
def StopsBox {α:Type} (n:Nat) (P:Program) (gf:Nat) (lb:Array Value) (encs:α→Array Value) (Bs:Nat) (Kp:World→World→Prop) (S Sp:List α→Prop) (w:World):Prop :=
 ∀(l:Nat) (J Jx:List α→World→Prop) (W:World),Below w.heap.size w W→(∀pre A v,J pre A→J pre (A.setCell ⟨Bs,0,none⟩ v)) →
  (∀pre x A,J pre A→YieldAt Fence.wide (n-1) P l (encs x) A fun e A' =>
   (e=.returned (.bool true)∧J (pre++[x]) A'∧Kp A A')∨(e=.returned (.bool false)∧Jx (pre++[x]) A')) →
  J [] W →
  CallsIn Fence.wide n P gf (#[.func (.yield l) #[] #[]]++lb) W fun e W'=>(∃v,e=.returned v)∧((∃xs,S xs∧J xs W')∨(∃pre,Sp pre∧Jx pre W'))
theorem wpIn_rangeFunc_box {α:Type} {P:Program} {n:Nat} {g:Operand} {ps:Array Tmp} {assign body:Code} {Q:Exit→Act→World→Prop} {a:Act} {w:World}
 (h1:1≤n) {gf:Nat} {lb:Array Value} (hg:a.eval g=.func (.func gf) #[] lb) (eg:∀args w,(callFunc gf args).run P w=.ok (.enter gf args) w)
 {encs:α→Array Value} {Bs:Nat} {Kp:World→World→Prop} {S Sp:List α→Prop} (hseq:StopsBox (n-1) P gf lb encs Bs Kp S Sp w)
 (hKt:∀ {A B C:World},Kp A B→Kp B C→Kp A C) (hKb:∀(W:World) (l:Nat) (o o':Obj),w.heap.size≤l→W.heap[l]? = some o→o.isCells=false→o.isWalk=false→Kp W (W.putObj l o')) (hps:∀x,(encs x).size=ps.size)
 (I:List α→World→Prop) (Ix:Code→List α→World→Prop) (hI:OwnFrom w.heap.size I) (hIx:∀c,OwnFrom w.heap.size (Ix c)) (hIs:∀pre A v,I pre A→I pre (A.setCell ⟨Bs,0,none⟩ v)) (h0:I [] w) (a₁:α→Act)
 (hassign:∀(l:Nat) (x:α) (W:World) (K:Act→World→Prop),K (a₁ x) W →
  assign.wpIn (Fence.wide.inRound l) (n-1-1) P (Exit.then K (fun _ _ _=>False)) { tmps:=(ps.zip (encs x)).foldl (fun t (p,v)=>t.setIfInBounds p v) a.tmps,defers:=[] } W)
 (hbody:∀(l:Nat) (pre:List α) (x:α) (W:World),I pre W→body.wpIn (Fence.wide.inRound l) (n-1-1) P (ownPostK Kp I Ix (pre++[x]) W) (a₁ x) W)
 (hdone:∀(D:Nat) (xs:List α) (W:World),w.heap.size≤D→S xs→I xs W→W.heap[D]? = some (.deferred (some []))→Q .normal { a with defers := { target:=.collected D,args:=#[] } :: a.defers } W)
 (hstop:∀(D:Nat) (c:Code) (pre:List α) (W:World),w.heap.size≤D→Sp pre→Ix c pre W→W.heap[D]? = some (.deferred (some []))→c.wpIn Fence.wide n P Q { a with defers := { target:=.collected D,args:=#[] } :: a.defers } W) :
 (Code.rangeFunc g ps assign body).wpIn Fence.wide n P Q a w:=by
 refine wpIn_rangeFunc fun fn hfn=>?_
 let R:LoopState→Option Code→Loop:=fun st pe => { state:=st,pending:=pe,fn,tmps:=a.tmps,params:=ps,assign,body,defers:=w.heap.size }
 have hsz:(w.alloc (.deferred (some []))).heap.size=w.heap.size+1:=World.size_alloc ..
 have hW:Way w.heap.size (R .ready none) ((w.alloc (.deferred (some []))).alloc (.loop (R .ready none))):=by
  refine ⟨?_,(Below.heap_alloc _ _ _ (by omega)).trans (World.alloc_heap_new w _)⟩;have:=World.alloc_heap_new (w.alloc (.deferred (some []))) (.loop (R .ready none));rwa [hsz] at this
 have hI1:I [] ((w.alloc (.deferred (some []))).alloc (.loop (R .ready none))):=hI.alloc _ (hI.alloc _ h0);have hb1:Below w.heap.size w ((w.alloc (.deferred (some []))).alloc (.loop (R .ready none))):=((Below.refl _ w).alloc (Nat.le_refl _) _).alloc (by omega) _;have hrun:(Instr.enterLoop fn a.tmps ps assign body none).run P w=.ok (w.heap.size+1,[{ target:=.collected w.heap.size,args:=#[] }]) ((w.alloc (.deferred (some []))).alloc (.loop (R .ready none))):=run_enterLoop_outer _ _ _ _ _;generalize (w.alloc (.deferred (some []))).alloc (.loop (R .ready none))=W1 at *
 refine ⟨w.heap.size+1,[{ target:=.collected w.heap.size,args:=#[] }],W1,{ target:=.fn (.func gf) lb,args:=#[.func (.yield (w.heap.size+1)) #[] #[]] },W1,gf,
  #[.func (.yield (w.heap.size+1)) #[] #[]]++lb,W1,hrun,?_,fun _ _=>trivial,?_,fun _=>h1,?_⟩
 ·simp only [resolve,hg]
  simp [go_sem]
 ·simp [invoke,go_sem,eg]
 refine (hseq (w.heap.size+1) (fun pre W=>I pre W∧Way w.heap.size (R .ready none) W) (fun pre W=>∃c,Ix c pre W∧Way w.heap.size (R .done (some c)) W) W1 hb1
  (fun pre A v h=>⟨hIs pre A v h.1,h.2.kept (KeepsOthers.setCell _ _ _)⟩) ?_ ⟨hI1,hW⟩).mono ?_
 ·rintro pre x A ⟨hi,hw⟩
  have hy:=run_yield (P:=P) (args:=encs x) hw.1 (hps x);refine ⟨fn,_,assign,body,hy,roundIn_of_wpIn hfn (hassign _ x A _ ⟨_,run_beginRound hw.1 rfl,?_⟩)⟩;have hw2:=hw.turn { R .ready none with state:=.busy };refine wpIn_mono (hbody _ pre x _ (hI.putObj _ hi (by omega) hw.1 rfl)) ?_;have hk2:Kp A (A.putObj (w.heap.size+1) (.loop { R .ready none with state:=.busy })):=hKb _ _ _ _ (by omega) hw.1 rfl rfl;rintro e a3 B hp
  cases e with
  | normal =>
   obtain ⟨hk3,hkp3,hi3⟩:=hp;have hw3:=hw2.kept hk3;exact ⟨_,_,run_endRound none hw3.1,.inl ⟨rfl,⟨hI.putObj _ hi3 (by omega) hw3.1 rfl,hw3.turn _⟩,hKt (hKt hk2 hkp3) (hKb _ _ _ _ (by omega) hw3.1 rfl rfl)⟩⟩
  | ret =>
   obtain ⟨hk3,hi3⟩:=hp;have hw3:=hw2.kept hk3;exact ⟨_,_,run_endRound (some .ret) hw3.1,.inr ⟨rfl,.ret,(hIx _).putObj _ hi3 (by omega) hw3.1 rfl,hw3.turn _⟩⟩
  | exit id =>
   obtain ⟨hk3,hi3⟩:=hp;have hw3:=hw2.kept hk3;exact ⟨_,_,run_endRound (some (.exit id)) hw3.1,.inr ⟨rfl,.exit id,(hIx _).putObj _ hi3 (by omega) hw3.1 rfl,hw3.turn _⟩⟩
  | goto t =>
   obtain ⟨hk3,hi3⟩:=hp;have hw3:=hw2.kept hk3;exact ⟨_,_,run_endRound (some (.goto t)) hw3.1,.inr ⟨rfl,.goto t,(hIx _).putObj _ hi3 (by omega) hw3.1 rfl,hw3.turn _⟩⟩
  | panic ch=>exact hp.elim
  | outgrown=>exact hp.elim
 ·rintro e W2 ⟨⟨v,rfl⟩,(⟨xs,hS,hi,hw⟩|⟨pre,hSp,c,hi,hw⟩)⟩
  ·exact ⟨none,_,run_endLoop hw.1 (by simp [R]),hdone _ xs _ (Nat.le_refl _) hS (hI.putObj _ hi (by omega) hw.1 rfl) (hw.turn _).2⟩
  ·exact ⟨some c,_,run_endLoop hw.1 (by simp [R]),hstop _ c pre _ (Nat.le_refl _) hSp ((hIx c).putObj _ hi (by omega) hw.1 rfl) (hw.turn _).2⟩
inductive Spec
 | ex (v:Value)
 | rel (p:Value→World→Prop)
 | new (p:Value→World→Prop)
def Spec.ok:Spec→Value→World→Prop
 | .ex v,u,_=>u=v
 | .rel p,u,w=>p u w
 | .new p,u,w=>p u w
def Lasts (p:Value→World→Prop):Prop:=∀u w w',Below w.heap.size w w'→p u w→p u w'
def Spec.lasts:Spec→Prop
 | .ex _=>True
 | .rel p=>Lasts p
 | .new p=>Lasts p
theorem Spec.ok_lasts {s:Spec} (h:s.lasts) {u:Value} {w w':World} (hb:Below w.heap.size w w') (ho:s.ok u w):s.ok u w':=by
 cases s with
 | ex v=>exact ho
 | rel p=>exact h u w w' hb ho
 | new p=>exact h u w w' hb ho
def blkOf:Value→Option Nat
 | .pointer (some a)=>some a.block
 | .slice (some a) _ _=>some a.block
 | _=>none
def Fresh (w:World) (u:Value) (w':World):Prop:=∃g,blkOf u=some g∧w.heap.size≤g∧g<w'.heap.size
def Spec.want (s:Spec) (w:World) (u:Value) (w':World):Prop :=
 match s with
 | .ex v=>u=v
 | .rel p=>p u w'
 | .new p=>p u w'∧Fresh w u w'
theorem Spec.want_ok {s:Spec} {w w':World} {u:Value} (h:s.want w u w'):s.ok u w':=by
 cases s with
 | ex v=>exact h
 | rel p=>exact h
 | new p=>exact h.1
def relUpon (P:Program) (w:World) (p:Value→World→Prop):Result Next→Prop
 | .ok (.value u) w'=>Below w.heap.size w w'∧p u w'
 | .ok .skip w'=>Below w.heap.size w w'∧p undef w'
 | .ok (.enter f args) w'=>Calls P f args w' fun e w''=>∃u,e=.returned u∧Below w.heap.size w w''∧p u w''
 | _=>False
def relAt (P:Program) (o:Oper) (a:Act) (w:World) (p:Value→World→Prop):Prop:=relUpon P w p ((execOp a.eval o).run P w)
def relOp (P:Program) (ops:Array Oper) (o:Oper) (a:Act) (w:World) (p:Value→World→Prop):Prop :=
 if Region.wanted o (yielded ops a.tmps) then relAt P o a w p else p undef w
theorem wpOp_of_rel {P:Program} {ops:Array Oper} {i:Nat} {o:Oper} {a:Act} {w:World} {p:Value→World→Prop} {K:Act→World→Prop} {Q:Exit→Act→World→Prop} (hi:ops[i]? = some o) (h:relOp P ops o a w p)
 (hK:∀u w',Below w.heap.size w w'→p u w'→K (a.put o.dst u) w'):wpOp P ops Q i K a w:=by
 unfold wpOp;simp only [hi];unfold relOp at h
 split
 ·rename_i hw
  rw [if_pos hw] at h;refine .inl ?_;unfold Oper.wp;unfold relAt at h;generalize (execOp a.eval o).run P w=r at *
  cases r with
  | ok n w' =>
   cases n<;>simp only [relUpon] at h<;>simp only [Oper.upon]
   case value u=>exact hK _ _ h.1 h.2
   case skip=>exact hK _ _ h.1 h.2
   case enter f args=>exact h.mono fun e w'' ⟨u,he,hb,hp⟩=>by subst he;exact hK _ _ hb hp
  | halt x w'=>simp only [relUpon] at h
 ·rename_i hw
  rw [if_neg hw] at h;exact hK _ _ (Below.refl _ _) h
abbrev Facts:=List (Nat × (World→Prop))
def factsOf (Γ:Facts):List Nat→World→Prop
 | [],_=>True
 | j::ds,w=>((Γ.lookup j).getD fun _=>True) w∧factsOf Γ ds w
def factsAll:Facts→World→Prop
 | [],_=>True
 | x::Γ,w=>x.2 w∧factsAll Γ w
def relWalk (P:Program) (ops:Array Oper) (C:World→Prop) (fin:Act→World→Prop):List Oper→List (Spec × List Nat)→Nat→Facts→List Value→Act→Prop
 | [],_,_,Γ,U,a=>∀w,C w→factsAll Γ w→U.Pairwise (fun u v=>blkOf u≠blkOf v)→fin a w
 | _::_,[],_,_,_,_=>False
 | o::l,(.ex v,ds)::ss,k,Γ,U,a=>(∀w,C w→factsOf Γ ds w→relOp P ops o a w fun u _=>u=v)∧relWalk P ops C fin l ss (k+1) Γ U (a.put o.dst v)
 | o::l,(.rel p,ds)::ss,k,Γ,U,a=>(∀w,C w→factsOf Γ ds w→relOp P ops o a w p)∧∀u,relWalk P ops C fin l ss (k+1) ((k,p u)::Γ) U (a.put o.dst u)
 | o::l,(.new p,ds)::ss,k,Γ,U,a=>(∀w,C w→factsOf Γ ds w→relOp P ops o a w fun u w'=>p u w'∧Fresh w u w')∧∀u,relWalk P ops C fin l ss (k+1) ((k,p u)::Γ) (u::U) (a.put o.dst u)
section
variable {P:Program} {ops:Array Oper} {C:World→Prop} {fin:Act→World→Prop} {specs:List (Spec × List Nat)}
def lexF (ops:Array Oper) (us:Nat→Value) (a:Act):Nat→Act
 | 0=>a
 | m+1=>match ops[m]? with
  | some o=>(lexF ops us a m).put o.dst (us m)
  | none=>lexF ops us a m
def FactAt (specs:List (Spec × List Nat)) (us:Nat→Value) (j:Nat) (w:World):Prop:=∀s ds,specs[j]? = some (s,ds)→s.ok (us j) w
def Exact (specs:List (Spec × List Nat)) (us:Nat→Value):Prop:=∀(j:Nat) v ds,specs[j]? = some (.ex v,ds)→us j=v
def IsNew (specs:List (Spec × List Nat)) (j:Nat):Prop:=∃p ds,specs[j]? = some (.new p,ds)
def News (specs:List (Spec × List Nat)) (us:Nat→Value):Prop:=∀i j,i≠j→IsNew specs i→IsNew specs j→blkOf (us i)≠blkOf (us j)
def UOk (specs:List (Spec × List Nat)) (us:Nat→Value) (k:Nat) (U:List Value):Prop:=(∀u ∈ U,∃j,j<k∧IsNew specs j∧u=us j)∧(News specs us→U.Pairwise (fun u v=>blkOf u≠blkOf v))
def GOk (specs:List (Spec × List Nat)) (us:Nat→Value) (Γ:Facts):Prop:=∀j x,(j,x) ∈ Γ→∀w,FactAt specs us j w→x w
theorem rlLookup_mem {α:Type} : ∀ {Γ:List (Nat × α)} {j:Nat} {x:α},Γ.lookup j=some x→(j,x) ∈ Γ
 | (k,y)::Γ,j,x,h=>by
  rw [List.lookup_cons] at h
  cases hjk:j==k with
  | true=>rw [hjk] at h;cases h;rw [beq_iff_eq] at hjk;subst hjk;exact List.mem_cons_self
  | false=>rw [hjk] at h;exact List.mem_cons_of_mem _ (rlLookup_mem h)
theorem factsOf_of {us:Nat→Value} {Γ:Facts} (hG:GOk specs us Γ) {w:World} : ∀(ds:List Nat),(∀j ∈ ds,FactAt specs us j w)→factsOf Γ ds w
 | [],_=>trivial
 | j::ds,h=>by
  refine ⟨?_,factsOf_of hG ds fun i hi=>h i (List.mem_cons_of_mem _ hi)⟩
  cases hl:Γ.lookup j with
  | none=>exact trivial
  | some x=>exact hG j x (rlLookup_mem hl) w (h j List.mem_cons_self)
theorem factsAll_of {us:Nat→Value} {w:World} (h:∀j,FactAt specs us j w):∀ {Γ:Facts},GOk specs us Γ→factsAll Γ w
 | [],_=>trivial
 | (j,x)::Γ,hG=>⟨hG j x List.mem_cons_self w (h j),factsAll_of h fun i y hy=>hG i y (List.mem_cons_of_mem _ hy)⟩
theorem walk_steps {us:Nat→Value} {a:Act} (hE:Exact specs us):∀(l:List Oper) (ss:List (Spec × List Nat)) (k:Nat) (Γ:Facts) (U:List Value),relWalk P ops C fin l ss k Γ U (lexF ops us a k)→ss=specs.drop k→(∀j,j<l.length→l[j]? = ops[k+j]?)→GOk specs us Γ→UOk specs us k U →
 (∀i o,k≤i→i<k+l.length→ops[i]? = some o→∃s ds,specs[i]? = some (s,ds)∧∀w,C w→(∀j ∈ ds,FactAt specs us j w)→relOp P ops o (lexF ops us a i) w (s.want w))∧(∀w,C w→(∀j,FactAt specs us j w)→News specs us→fin (lexF ops us a (k+l.length)) w)
 | [],ss,k,Γ,U,h,_,_,hG,hU=>⟨fun i o h1 h2=>absurd h2 (by simp only [List.length_nil];omega),fun w hw hf hn=>h w hw (factsAll_of hf hG) (hU.2 hn)⟩
 | o::l,[],k,Γ,U,h,_,_,_,_=>h.elim
 | o::l,(s,ds)::ss,k,Γ,U,h,hss,hl,hG,hU=>by
  have h0:ops[k]? = some o:=by simpa using (hl 0 (by simp)).symm
  have hs0:specs[k]? = some (s,ds):=by have:=congrArg (fun x=>x[0]?) hss;simpa using this.symm
  have hss':ss=specs.drop (k+1):=by have:=congrArg List.tail hss;simpa using this
  have hl':∀j,j<l.length→l[j]? = ops[k+1+j]?:=fun j hj=>by have:=hl (j+1) (by simp;omega);simpa [Nat.add_assoc,Nat.add_comm 1 j] using this
  have hx:lexF ops us a (k+1)=(lexF ops us a k).put o.dst (us k):=by simp only [lexF,h0]
  have hU1:UOk specs us (k+1) U:=⟨fun u hu=>by obtain ⟨j,h1,h2⟩:=hU.1 u hu;exact ⟨j,by omega,h2⟩,hU.2⟩
  have key:(∀w,C w→factsOf Γ ds w→relOp P ops o (lexF ops us a k) w (s.want w))∧∃Γ' U',GOk specs us Γ'∧UOk specs us (k+1) U'∧relWalk P ops C fin l ss (k+1) Γ' U' (lexF ops us a (k+1)):=by
   cases s with
   | ex v =>
    have hv:=hE k v ds hs0;refine ⟨h.1,Γ,U,hG,hU1,?_⟩;rw [hx,hv];exact h.2
   | rel p =>
    refine ⟨h.1,(k,p (us k))::Γ,U,fun j x hx w hw=>?_,hU1,?_⟩
    ·rcases List.mem_cons.1 hx with hx|hx
     ·cases hx;exact hw _ _ hs0
     ·exact hG j x hx w hw
    ·rw [hx];exact h.2 _
   | new p =>
    refine ⟨h.1,(k,p (us k))::Γ,us k::U,fun j x hx w hw=>?_,⟨fun u hu=>?_,fun hn=>List.pairwise_cons.2 ⟨fun u hu=>?_,hU.2 hn⟩⟩,?_⟩
    ·rcases List.mem_cons.1 hx with hx|hx
     ·cases hx;exact hw _ _ hs0
     ·exact hG j x hx w hw
    ·rcases List.mem_cons.1 hu with hu|hu
     ·exact ⟨k,by omega,⟨p,ds,hs0⟩,hu⟩
     ·exact hU1.1 u hu
    ·obtain ⟨j,h1,h2,h3⟩:=hU.1 u hu
     rw [h3];exact hn k j (by omega) ⟨p,ds,hs0⟩ h2
    ·rw [hx];exact h.2 _
  obtain ⟨hstep,Γ',U',hG',hU',hrest⟩:=key;obtain ⟨h1,h2⟩:=walk_steps hE l ss (k+1) Γ' U' hrest hss' hl' hG' hU';refine ⟨fun i o' hk hi ho=>?_,fun w hw hf hn=>by have:=h2 w hw hf hn;rwa [show k+1+l.length=k+(o::l).length by simp;omega] at this⟩
  by_cases hik:i=k
  ·subst hik
   have:o'=o:=Option.some.inj (ho.symm.trans h0);subst this;exact ⟨s,ds,hs0,fun w hw hf=>hstep w hw (factsOf_of hG ds hf)⟩
  ·exact h1 i o' (by omega) (by simp only [List.length_cons] at hi;omega) ho
structure FrIs (ops:Array Oper) (n:Nat) (us:Nat→Value) (D:Nat→Bool) (a0 a:Act):Prop where
 rest:({ a with tmps:=a0.tmps } : Act)=a0
 size:a.tmps.size=a0.tmps.size
 done:∀(j:Nat) o d,j<n→ops[j]? = some o→o.dst=some d→D j=true→d<a0.tmps.size→a.tmps[d]? = some (us j)
 out:∀t,(∀(j:Nat) o,j<n→ops[j]? = some o→D j=true→o.dst≠some t)→a.tmps[t]? = a0.tmps[t]?
theorem FrIs.same {n:Nat} {us:Nat→Value} {D:Nat→Bool} {a0 a b:Act} (h:FrIs ops n us D a0 a) (h':FrIs ops n us D a0 b):a=b:=by
 have ht:a.tmps=b.tmps:=by
  apply Array.ext_getElem?
  intro t
  by_cases hx:∃(j:Nat) (o:Oper),j<n∧ops[j]? = some o∧D j=true∧o.dst=some t
  ·obtain ⟨j,o,hj,ho,hD,hd⟩:=hx
   by_cases hs:t<a0.tmps.size
   ·rw [h.done j o t hj ho hd hD hs,h'.done j o t hj ho hd hD hs]
   ·rw [Array.getElem?_eq_none (by rw [h.size];omega),Array.getElem?_eq_none (by rw [h'.size];omega)]
  ·rw [h.out t fun j o hj ho hD hd=>hx ⟨j,o,hj,ho,hD,hd⟩,h'.out t fun j o hj ho hD hd=>hx ⟨j,o,hj,ho,hD,hd⟩]
 have h1:=h.rest.trans h'.rest.symm;obtain ⟨t1,x1⟩:=a;obtain ⟨t2,y1⟩:=b;simp only at ht;subst ht;simp only [Act.mk.injEq,true_and] at h1;simp only [Act.mk.injEq,true_and];exact h1
def rlUpd (us:Nat→Value) (i:Nat) (u:Value):Nat→Value:=fun j=>if j=i then u else us j
theorem rlUpd_same (us:Nat→Value) (i:Nat) (u:Value):rlUpd us i u i=u:=if_pos rfl
theorem rlUpd_ne {us:Nat→Value} {i j:Nat} {u:Value} (h:j≠i):rlUpd us i u j=us j:=if_neg h
def Apart (ops:Array Oper) (n:Nat):Prop:=∀(j k:Nat) oj ok d,j<n→k<n→ops[j]? = some oj→ops[k]? = some ok→oj.dst=some d→ok.dst=some d→j=k
theorem FrIs.put {n:Nat} {us:Nat→Value} {D:Nat→Bool} {a0 a:Act} {i:Nat} {o:Oper} (hA:Apart ops n) (h:FrIs ops n us D a0 a) (hi:i<n) (ho:ops[i]? = some o) (u:Value) {D':Nat→Bool} (hD:∀j,j<n→D' j=(D j||j==i)) :
 FrIs ops n (rlUpd us i u) D' a0 (a.put o.dst u):=by
 cases hd:o.dst with
 | none =>
  refine ⟨h.rest,h.size,fun j o' d hj ho' hd' hDj hs=>?_,fun t ht=>?_⟩
  ·have hji:j≠i:=fun e=>by subst e;rw [ho] at ho';cases ho';rw [hd] at hd';cases hd'
   rw [rlUpd_ne hji];rw [hD j hj] at hDj;simp only [Bool.or_eq_true,beq_iff_eq,hji,or_false] at hDj;exact h.done j o' d hj ho' hd' hDj hs
  ·exact h.out t fun j o' hj ho' hDj=>ht j o' hj ho' (by rw [hD j hj,hDj];rfl)
 | some e =>
  refine ⟨?_,by simp [Act.put,h.size],fun j o' d hj ho' hd' hDj hs=>?_,fun t ht=>?_⟩
  ·have:=h.rest
   simpa [Act.put] using this
  ·simp only [Act.put]
   by_cases hji:j=i
   ·subst hji
    rw [ho] at ho';cases ho';rw [hd] at hd';cases hd';rw [rlUpd_same,Array.getElem?_setIfInBounds_self,if_pos (by rw [h.size];exact hs)]
   ·have hne:e≠d:=fun he=>by subst he;exact hji (hA j i o' o e hj hi ho' ho hd' hd)
    rw [Array.getElem?_setIfInBounds_ne hne,rlUpd_ne hji];rw [hD j hj] at hDj;simp only [Bool.or_eq_true,beq_iff_eq,hji,or_false] at hDj;exact h.done j o' d hj ho' hd' hDj hs
  ·have hne:e≠t:=fun he=>by
    subst he;exact ht i o hi ho (by rw [hD i hi];simp) hd
   simp only [Act.put];rw [Array.getElem?_setIfInBounds_ne hne];exact h.out t fun j o' hj ho' hDj=>ht j o' hj ho' (by rw [hD j hj,hDj];rfl)
theorem FrIs.congr {n:Nat} {us us':Nat→Value} {D D':Nat→Bool} {a0 a:Act} (h:FrIs ops n us D a0 a) (hu:∀j,j<n→D' j=true→us j=us' j) (hD:∀j,j<n→D j=D' j):FrIs ops n us' D' a0 a :=
 ⟨h.rest,h.size,fun j o d hj ho hd hDj hs=>by rw [←hu j hj hDj];exact h.done j o d hj ho hd (by rw [hD j hj];exact hDj) hs,fun t ht=>h.out t fun j o hj ho hDj=>ht j o hj ho (by rw [←hD j hj];exact hDj)⟩
theorem lexF_is {n:Nat} (hA:Apart ops n) (hn:n≤ops.size) (us:Nat→Value) (a0:Act):∀m,m≤n→FrIs ops n us (fun j=>decide (j<m)) a0 (lexF ops us a0 m)
 | 0,_=>⟨rfl,rfl,fun j o d hj ho hd hD=>by simp at hD,fun t ht=>rfl⟩
 | m+1,hm=>by
  have h:=lexF_is hA hn us a0 m (by omega);obtain ⟨o,ho⟩:∃o,ops[m]? = some o:=⟨_,Array.getElem?_eq_getElem (by omega)⟩;simp only [lexF,ho];refine (h.put hA (i:=m) (by omega) ho (us m) (D':=fun j=>decide (j<m+1)) fun j hj=>?_).congr (fun j hj hD=>?_) fun _ _=>rfl
  ·by_cases hjm:j=m
   ·subst hjm;simp
   ·simp only [beq_eq_false_iff_ne.2 hjm,Bool.or_false,decide_eq_decide];omega
  ·by_cases hjm:j=m
   ·subst hjm;exact rlUpd_same _ _ _
   ·exact rlUpd_ne hjm
theorem relOp_congr {o:Oper} (hsel:∀cs b,o.op≠.select cs b) {a b:Act} (h:∀t ∈ o.looksAt ops,a.tmps[t]? = b.tmps[t]?) {w:World} {p:Value→World→Prop} (hr:relOp P ops o a w p):relOp P ops o b w p:=by
 have he:execOp a.eval o=execOp b.eval o:=execOp_congr o hsel fun x hx=>by
  cases x with
  | tmp t =>
   have:=h t (List.mem_append_left _ (List.mem_filterMap.2 ⟨.tmp t,by simpa using hx,rfl⟩));simp only [Act.eval,Array.getD_eq_getD_getElem?,this]
  | _=>rfl
 have hw:Region.wanted o (yielded ops a.tmps)=Region.wanted o (yielded ops b.tmps):=by
  unfold Region.wanted
  cases hg:o.guard with
  | none=>rfl
  | some gw =>
   obtain ⟨g,want⟩:=gw
   have hy:yielded ops a.tmps g=yielded ops b.tmps g:=by
    unfold yielded
    cases ht:(ops[g]?).bind (·.dst) with
    | none=>rfl
    | some t =>
     have:=h t (by simp [Oper.looksAt,hg,ht]);simp only [Option.bind_some,this]
   simp only [hy]
 unfold relOp relAt at *;rwa [←he,←hw]
def rlCnt (listed:Array Bool):Nat→Nat
 | 0=>0
 | n+1=>rlCnt listed n+if listed.getD n true=true then 0 else 1
theorem rlCnt_ge {listed:Array Bool} {i:Nat} : ∀n,n≤i→rlCnt (listed.setIfInBounds i true) n=rlCnt listed n
 | 0,_=>rfl
 | n+1,h=>by
  have h1:=rlCnt_ge (listed:=listed) (i:=i) n (by omega);simp only [rlCnt,h1,getD_set_ne true (show i≠n by omega)]
theorem getD_set_self {listed:Array Bool} {i:Nat} : (listed.setIfInBounds i true).getD i true=true:=by
 rcases Nat.lt_or_ge i listed.size with h|h
 ·simp [h]
 ·simp [h]
theorem rlCnt_set {listed:Array Bool} {i:Nat} (hi:listed.getD i true=false):∀n,i<n→rlCnt (listed.setIfInBounds i true) n+1=rlCnt listed n
 | 0,h=>absurd h (by omega)
 | n+1,h=>by
  by_cases hin:i=n
  ·subst hin
   simp only [rlCnt,rlCnt_ge i (Nat.le_refl _),getD_set_self,hi,if_true,Bool.false_eq_true,if_false]
  ·have:=rlCnt_set hi n (by omega)
   simp only [rlCnt,getD_set_ne true hin]
   omega
theorem rlCnt_zero {listed:Array Bool} : ∀n,rlCnt listed n=0→∀j,j<n→listed.getD j true=true
 | 0,_,j,hj=>absurd hj (by omega)
 | n+1,h,j,hj=>by
  simp only [rlCnt] at h
  by_cases hjn:j=n
  ·subst hjn
   cases hx:listed.getD j true with
   | true=>rfl
   | false=>rw [hx] at h;simp at h
  ·exact rlCnt_zero n (by omega) j (by omega)
theorem rlCnt_least {listed:Array Bool} : ∀n,rlCnt listed n≠0→∃k,k<n∧listed.getD k true=false∧∀j,j<k→listed.getD j true=true
 | 0,h=>absurd rfl h
 | n+1,h=>by
  by_cases h0:rlCnt listed n=0
  ·refine ⟨n,by omega,?_,rlCnt_zero n h0⟩
   simp only [rlCnt,h0] at h
   cases hx:listed.getD n true with
   | true=>rw [hx] at h;simp at h
   | false=>rfl
  ·obtain ⟨k,h1,h2,h3⟩:=rlCnt_least n h0
   exact ⟨k,by omega,h2,h3⟩
theorem getD_of_in {listed:Array Bool} {i:Nat} (hi:i<listed.size) (d d':Bool):listed.getD i d=listed.getD i d':=by simp [hi]
def relB (ops:Array Oper) (n:Nat) (ds:List (List Nat)):Bool :=
 Region.noSelect ops&&decide (n≤ops.size)&&(decide (n=ops.size)||(Region.sinkB .any ops n&&Region.chainB .any ops n))&&Region.seqB .any ops (ops.size-n) n (Array.ofFn (n:=ops.size) fun i=>decide (i.val<n)) &&
 (List.range n).all fun i=>match ops[i]? with
  | some o=>(o.after.all fun e => !Region.binds .any e||decide (e.on<i))&&((ds.getD i []).all fun j=>Region.waitsFor .any ops i j) &&
   (List.range n).all fun j=>match ops[j]? with
    | some oj=>(match oj.dst with
     | some d=>(!(o.looksAt ops).contains d||(decide (j<i)&&Region.waitsFor .any ops i j))&&(decide (i=j)||o.dst != some d)
     | none=>true)
    | none=>true
  | none=>false
structure RelOk (ops:Array Oper) (n:Nat) (ds:List (List Nat)):Prop where
 sel:∀(j:Nat) (o:Oper) cs b,ops[j]? = some o→o.op≠.select cs b
 le:n≤ops.size
 tail:n=ops.size∨(Region.sinkB .any ops n=true∧Region.chainB .any ops n=true)
 seq:Region.seqB .any ops (ops.size-n) n (Array.ofFn (n:=ops.size) fun i=>decide (i.val<n))=true
 before:∀(i:Nat) o,i<n→ops[i]? = some o→∀e ∈ o.after,Region.binds .any e=true→e.on<i
 deps:∀(i:Nat) dl,i<n→ds[i]? = some dl→∀j ∈ dl,Region.waitsFor .any ops i j=true
 looks:∀(i j:Nat) o oj d,i<n→j<n→ops[i]? = some o→ops[j]? = some oj→oj.dst=some d→d ∈ o.looksAt ops→j<i∧Region.waitsFor .any ops i j=true
 apart:Apart ops n
theorem relOk_of {n:Nat} {ds:List (List Nat)} (h:relB ops n ds=true):RelOk ops n ds:=by
 simp only [relB,Bool.and_eq_true,Bool.or_eq_true,decide_eq_true_eq] at h;obtain ⟨⟨⟨⟨h1,h2⟩,h3⟩,h4⟩,h5⟩:=h
 have hat:∀(i:Nat) o,i<n→ops[i]? = some o→(o.after.all fun e => !Region.binds .any e||decide (e.on<i))=true∧((ds.getD i []).all fun j=>Region.waitsFor .any ops i j)=true ∧
  ∀(j:Nat) oj d,j<n→ops[j]? = some oj→oj.dst=some d→((o.looksAt ops).contains d=false∨(j<i∧Region.waitsFor .any ops i j=true))∧(i=j∨o.dst≠some d):=fun i o hi ho=>by
  have:=List.all_eq_true.1 h5 i (List.mem_range.2 hi);simp only [ho,Bool.and_eq_true] at this;refine ⟨this.1.1,this.1.2,fun j oj d hj hoj hd=>?_⟩;have h6:=List.all_eq_true.1 this.2 j (List.mem_range.2 hj);simp only [hoj,hd,Bool.and_eq_true,Bool.or_eq_true,Bool.not_eq_true',decide_eq_true_eq,bne_iff_ne] at h6;exact h6
 refine ⟨Region.noSelect_spec h1,h2,h3,h4,fun i o hi ho e he hb=>?_,fun i dl hi hd j hj=>?_,fun i j o oj d hi hj ho hoj hd hl=>?_,fun j k oj ok d hj hk hoj hok hdj hdk=>?_⟩
 ·have:=Array.all_eq_true'.1 (hat i o hi ho).1 e he
  simpa [hb] using this
 ·obtain ⟨o,ho⟩:∃o,ops[i]? = some o:=⟨_,Array.getElem?_eq_getElem (by omega)⟩
  have h6:=(hat i o hi ho).2.1;rw [show ds.getD i []=dl by simp [hd]] at h6;exact List.all_eq_true.1 h6 j hj
 ·rcases ((hat i o hi ho).2.2 j oj d hj hoj hd).1 with h6|h6
  ·rw [List.contains_iff_mem.2 hl] at h6;cases h6
  ·exact h6
 ·rcases ((hat j oj hj hoj).2.2 k ok d hk hok hdk).2 with h6|h6
  ·exact h6
  ·exact absurd hdj h6
theorem waits_listed {i j:Nat} {o:Oper} {listed:Array Bool} (ho:ops[i]? = some o) (hall:∀e ∈ o.after,Region.binds .any e=true→listed.getD e.on false=true) (hw:Region.waitsFor .any ops i j=true):listed.getD j false=true:=by
 obtain ⟨o',ho',e,he,hb,hon⟩:=Region.waitsFor_spec hw;have:o'=o:=Option.some.inj (ho'.symm.trans ho);subst this;rw [←hon];exact hall e he hb
theorem rel_any {n:Nat} {ds:List (List Nat)} {Q:Exit→Act→World→Prop} {a0:Act} {tl:List Oper} (hR:RelOk ops n ds) (hlen:specs.length=n) (hds:∀(i:Nat) s dl,specs[i]? = some (s,dl)→ds[i]? = some dl)
 (hlast:∀s ∈ specs,s.1.lasts) (hC:∀w w',C w→Below w.heap.size w w'→C w') (htl:∀j,tl[j]? = ops[n+j]?) (htn:tl.length=ops.size-n)
 (hstep:∀us,Exact specs us→(∀(i:Nat) o,i<n→ops[i]? = some o→∃s dl,specs[i]? = some (s,dl)∧∀w,C w→(∀j ∈ dl,FactAt specs us j w)→relOp P ops o (lexF ops us a0 i) w (s.want w))∧(∀w,C w→(∀j,FactAt specs us j w)→News specs us→wpList P ops Q tl (lexF ops us a0 n) w)) :
 ∀(f:Nat) (listed:Array Bool) (a:Act) (w:World) (us:Nat→Value),rlCnt listed n=f→HeadInv .any ops n listed→C w→Exact specs us→(∀j,j<n→listed.getD j true=true→FactAt specs us j w)→(∀j,j<n→listed.getD j true=true→IsNew specs j→∃g,blkOf (us j)=some g∧g<w.heap.size)→(∀i j,i<n→j<n→listed.getD i true=true→listed.getD j true=true→i≠j→IsNew specs i→IsNew specs j→blkOf (us i)≠blkOf (us j))→FrIs ops n us (fun j=>listed.getD j true) a0 a→wpAny P .any ops Q (f+(ops.size-n)) listed a w:=by
 intro f
 induction f with
 | zero =>
  intro listed a w us hc inv hw hE hf hN hP hfr;have hall:=rlCnt_zero n hc
  have hl:listed=Array.ofFn (n:=ops.size) fun i=>decide (i.val<n):=by
   apply Array.ext (by simp [inv.size])
   intro t h1 h2;simp only [Array.getElem_ofFn]
   by_cases ht:t<n
   ·have:=hall t ht
    rw [show listed.getD t true=listed[t] by simp [h1]] at this;rw [this];simp [ht]
   ·have:=inv.tail t (by omega) (by rw [←inv.size];exact h1)
    rw [show listed.getD t true=listed[t] by simp [h1]] at this;rw [this];simp [ht]
  have ha:a=lexF ops us a0 n:=hfr.same ((lexF_is hR.apart hR.le us a0 n (Nat.le_refl _)).congr (fun _ _ _=>rfl) fun j hj=>by rw [hall j hj];simp [hj])
  have hfa:∀j,FactAt specs us j w:=fun j=>by
   by_cases hj:j<n
   ·exact hf j hj (hall j hj)
   ·intro s dl hs
    rw [List.getElem?_eq_none (by omega)] at hs
    cases hs
  have hlt:∀j,IsNew specs j→j<n:=fun j ⟨p,ds',hj⟩=>by
   rw [←hlen];exact (List.getElem?_eq_some_iff.1 hj).1
  have:=(hstep us hE).2 w hw hfa fun i j hij hi hj=>hP i j (hlt i hi) (hlt j hj) (hall i (hlt i hi)) (hall j (hlt j hj)) hij hi hj
  rw [←ha] at this;rw [Nat.zero_add,←htn];exact wpAny_of_seq tl n listed a w htl (by rw [htn,hl];exact hR.seq) this
 | succ f ih =>
  intro listed a w us hc inv hw hE hf hN hP hfr;rw [show f+1+(ops.size-n)=(f+(ops.size-n))+1 by omega];obtain ⟨k,hk,hku,hkl⟩:=rlCnt_least n (show rlCnt listed n≠0 by omega)
  have hkr:k ∈ Region.ready .any ops listed:=by
   obtain ⟨o,ho⟩:∃o,ops[k]? = some o:=⟨_,Array.getElem?_eq_getElem (by have:=hR.le;omega)⟩;refine mem_ready.2 ⟨hku,o,ho,fun e he hb=>?_⟩;have h1:=hR.before k o hk ho e he hb;rw [getD_of_in (by rw [inv.size];have:=hR.le;omega) false true];exact hkl _ h1
  refine ⟨fun h0=>(by rw [h0] at hkr;cases hkr),fun i hi=>?_⟩;obtain ⟨hiu,o,ho,hall⟩:=mem_ready.1 hi
  have hin:i<n:=by
   rcases Nat.lt_or_ge i n with h|h
   ·exact h
   ·rcases hR.tail with ht|⟨hs,hch⟩
    ·have:=(Array.getElem?_eq_some_iff.1 ho).1;omega
    ·by_cases hns:n<ops.size
     ·exact absurd hi (tail_waits hs hch hns inv _ k rfl hk hku i h)
     ·have:=(Array.getElem?_eq_some_iff.1 ho).1;omega
  obtain ⟨s,dl,hs,hst⟩:=(hstep us hE).1 i o hin ho
  have hfd:∀j ∈ dl,FactAt specs us j w:=fun j hj=>by
   have h1:=waits_listed ho hall (hR.deps i dl hin (hds i s dl hs) j hj)
   by_cases hjn:j<n
   ·exact hf j hjn (by rw [getD_of_in (by rw [inv.size];have:=hR.le;omega) true false];exact h1)
   ·intro s' dl' hs'
    rw [List.getElem?_eq_none (by omega)] at hs'
    cases hs'
  have hop:=hst w hw hfd;have hfl:=lexF_is hR.apart hR.le us a0 i (by omega)
  have hop':relOp P ops o a w (s.want w):=relOp_congr (fun cs b=>hR.sel i o cs b ho) (fun t ht=>by
   by_cases hx:∃(j:Nat) (oj:Oper),j<n∧ops[j]? = some oj∧oj.dst=some t
   ·obtain ⟨j,oj,hj,hoj,hd⟩:=hx
    obtain ⟨h1,h2⟩:=hR.looks i j o oj t hin hj ho hoj hd ht;have h3:=waits_listed ho hall h2;have h4:listed.getD j true=true:=by rw [getD_of_in (by rw [inv.size];have:=hR.le;omega) true false];exact h3
    by_cases hts:t<a0.tmps.size
    ·rw [hfl.done j oj t hj hoj hd (by simpa using h1) hts,hfr.done j oj t hj hoj hd h4 hts]
    ·rw [show (lexF ops us a0 i).tmps[t]? = none from Array.getElem?_eq_none (by rw [hfl.size];exact Nat.le_of_not_lt hts),show a.tmps[t]? = none from Array.getElem?_eq_none (by rw [hfr.size];exact Nat.le_of_not_lt hts)]
   ·rw [hfl.out t fun j oj hj hoj _ hd=>hx ⟨j,oj,hj,hoj,hd⟩,hfr.out t fun j oj hj hoj _ hd=>hx ⟨j,oj,hj,hoj,hd⟩]) hop
  refine wpOp_of_rel ho hop' fun u w' hb hp=>?_
  have hE':Exact specs (rlUpd us i u):=fun j v dl' hj=>by
   by_cases hji:j=i
   ·subst hji
    rw [hs] at hj
    cases hj
    rw [rlUpd_same];exact hp
   ·rw [rlUpd_ne hji];exact hE j v dl' hj
  refine ih (listed.setIfInBounds i true) (a.put o.dst u) w' (rlUpd us i u) (by have:=rlCnt_set hiu n hin;omega) (inv.set hi hin) (hC w w' hw hb) hE' (fun j hj hl=>?_) (fun j hj hl hn=>?_) (fun j k hj hk hlj hlk hjk hnj hnk=>?_) (hfr.put hR.apart hin ho u fun j hj=>?_)
  ·intro s' dl' hs'
   by_cases hji:j=i
   ·subst hji
    rw [hs] at hs'
    cases hs'
    rw [rlUpd_same];exact Spec.want_ok hp
   ·rw [rlUpd_ne hji]
    rw [getD_set_ne true (fun h=>hji h.symm)] at hl;exact Spec.ok_lasts (hlast _ (List.mem_of_getElem? hs')) hb (hf j hj hl s' dl' hs')
  ·by_cases hji:j=i
   ·subst hji
    obtain ⟨p,ds',hj'⟩:=hn;rw [hs] at hj'
    cases hj'
    obtain ⟨g,h1,h2,h3⟩:=(show p u w'∧Fresh w u w' from hp).2;exact ⟨g,by rw [rlUpd_same];exact h1,h3⟩
   ·rw [rlUpd_ne hji]
    rw [getD_set_ne true (fun h=>hji h.symm)] at hl;obtain ⟨g,h1,h2⟩:=hN j hj hl hn;exact ⟨g,h1,Nat.lt_of_lt_of_le h2 hb.size⟩
  ·have hold:∀m,m<n→(listed.setIfInBounds i true).getD m true=true→m≠i→IsNew specs m→∃g,blkOf (us m)=some g∧g<w.heap.size:=fun m hm hl hmi hn=>by
    rw [getD_set_ne true (fun h=>hmi h.symm)] at hl;exact hN m hm hl hn
   have hnew:IsNew specs i→∃g,blkOf u=some g∧w.heap.size≤g:=fun ⟨p,ds',hj'⟩=>by
    rw [hs] at hj'
    cases hj'
    obtain ⟨g,h1,h2,h3⟩:=(show p u w'∧Fresh w u w' from hp).2;exact ⟨g,h1,h2⟩
   by_cases hji:j=i
   ·subst hji
    have hki:k≠j:=fun h=>hjk h.symm
    rw [rlUpd_same,rlUpd_ne hki];obtain ⟨g,h1,h2⟩:=hnew hnj;obtain ⟨g',h3,h4⟩:=hold k hk hlk hki hnk;rw [h1,h3];intro h;cases h;omega
   ·by_cases hki:k=i
    ·subst hki
     rw [rlUpd_same,rlUpd_ne hji];obtain ⟨g,h1,h2⟩:=hnew hnk;obtain ⟨g',h3,h4⟩:=hold j hj hlj hji hnj;rw [h1,h3];intro h;cases h;omega
    ·rw [rlUpd_ne hji,rlUpd_ne hki]
     rw [getD_set_ne true (fun h=>hji h.symm)] at hlj;rw [getD_set_ne true (fun h=>hki h.symm)] at hlk;exact hP j k hj hk hlj hlk hjk hnj hnk
  ·by_cases hji:j=i
   ·subst hji;rw [getD_set_self];simp
   ·rw [getD_set_ne true (fun h=>hji h.symm),beq_eq_false_iff_ne.2 hji,Bool.or_false]
def allLast:List Spec→Prop
 | []=>True
 | s::ss=>s.lasts∧allLast ss
theorem allLast_mem:∀ {ss:List Spec},allLast ss→∀s ∈ ss,s.lasts
 | [],_,s,h=>by cases h
 | x::ss,h,s,hs=>by
  rcases List.mem_cons.1 hs with rfl|hs
  ·exact h.1
  ·exact allLast_mem h.2 s hs
theorem wp_region_rel {id:Nat} {Q:Exit→Act→World→Prop} {a:Act} {w:World} {l:List Oper} (n:Nat) (ds:List (List Nat)) (ss:List Spec) (C:World→Prop) (hm:P.follows .mixedOrders=true) (hB:relB l.toArray n ds=true) (hn:ds.length=n) (hs:ss.length=n)
 (hC0:C w.drew) (hC:∀w w',C w→Below w.heap.size w w'→C w') (hlast:allLast ss)
 (h:relWalk P l.toArray C (fun a' w'=>wpList P l.toArray Q (l.drop n) a' w') (l.take n) (ss.zip ds) 0 [] [] a):(Code.region id l.toArray true).wp P Q a w:=by
 have hR:=relOk_of hB;have hnl:n≤l.length:=by simpa using hR.le
 refine wp_region_any hm ?_
 have key:=rel_any (P:=P) (C:=C) (specs:=ss.zip ds) (Q:=Q) (a0:=a) (tl:=l.drop n) hR (by simp [hn,hs]) (fun i s dl hi=>by rw [List.getElem?_zip_eq_some] at hi;exact hi.2) (fun s hs'=>allLast_mem hlast _ (List.of_mem_zip hs').1) hC (fun j=>by simp) (by simp)
  (fun us hE=>by
   have:=walk_steps (P:=P) (ops:=l.toArray) (C:=C) hE (l.take n) (ss.zip ds) 0 [] [] h (by simp) (fun j hj=>by simp only [List.length_take] at hj;simp [List.getElem?_take];omega) (fun j x hx=>by cases hx) ⟨fun u hu=>(by cases hu),fun _=>List.Pairwise.nil⟩;simp only [Nat.zero_add,List.length_take,Nat.min_eq_left hnl] at this;exact ⟨fun i o hi ho=>this.1 i o (Nat.zero_le _) hi ho,this.2⟩)
 have hc0:∀m,m≤l.toArray.size→rlCnt (Array.replicate l.toArray.size false) m=m:=by
  intro m
  induction m with
  | zero=>intro _;rfl
  | succ m ih =>
   intro hm';simp only [rlCnt,ih (by omega)];rw [show (Array.replicate l.toArray.size false).getD m true=false from getD_in (by simp at hm' ⊢;omega) (getD_replicate_false _ _)]
   simp
 have hsz:n+(l.toArray.size-n)=l.toArray.size:=by have:=hR.le;omega
 have h2:=key n (Array.replicate l.toArray.size false) a { w with drawn:=w.drawn+1 } (fun j=>match (ss.zip ds)[j]? with
  | some (.ex v,_)=>v
  | _=>undef) (hc0 n hR.le) ⟨by simp,fun j oj _ hl=>(by rw [getD_replicate_false] at hl;cases hl),fun t _ ht=>getD_in (by simpa using ht) (getD_replicate_false _ _)⟩ hC0
  (fun j v dl hj=>by simp only [hj]) (fun j hj hl=>by rw [show (Array.replicate l.toArray.size false).getD j true=false from getD_in (by simp at hnl ⊢;omega) (getD_replicate_false _ _)] at hl;cases hl)
  (fun j hj hl=>by rw [show (Array.replicate l.toArray.size false).getD j true=false from getD_in (by simp at hnl ⊢;omega) (getD_replicate_false _ _)] at hl;cases hl)
  (fun i j hi hj hl=>by rw [show (Array.replicate l.toArray.size false).getD i true=false from getD_in (by simp at hnl ⊢;omega) (getD_replicate_false _ _)] at hl;cases hl)
  ⟨rfl,rfl,fun j o d hj ho hd hl=>(by rw [show (Array.replicate l.toArray.size false).getD j true=false from getD_in (by simp at hnl ⊢;omega) (getD_replicate_false _ _)] at hl;cases hl),fun t ht=>rfl⟩
 rw [hsz] at h2;exact h2
theorem relOp_plain {o:Oper} {a:Act} {w:World} {p:Value→World→Prop} (hg:o.guard=none) (h:relAt P o a w p):relOp P ops o a w p:=by
 unfold relOp Region.wanted;rw [hg];exact h
theorem relWalk_ex {o:Oper} {l:List Oper} {v:Value} {ss:List Spec} {d:List Nat} {ds:List (List Nat)} {k:Nat} {Γ:Facts} {U:List Value} {a:Act} (hg:o.guard=none) (h1:∀w,C w→factsOf Γ d w→relAt P o a w fun u _=>u=v)
 (h2:∀K:Act→Prop,(∀a',relWalk P ops C fin l (ss.zip ds) (k+1) Γ U a'→K a')→K (a.put o.dst v)):relWalk P ops C fin (o::l) ((Spec.ex v::ss).zip (d::ds)) k Γ U a :=
 ⟨fun w hC hF=>relOp_plain hg (h1 w hC hF),h2 _ fun _ h=>h⟩
theorem relWalk_rel {o:Oper} {l:List Oper} {p:Value→World→Prop} {ss:List Spec} {d:List Nat} {ds:List (List Nat)} {k:Nat} {Γ:Facts} {U:List Value} {a:Act} (hg:o.guard=none) (h1:∀w,C w→factsOf Γ d w→relAt P o a w p)
 (h2:∀(u:Value) (K:Act→Prop),(∀a',relWalk P ops C fin l (ss.zip ds) (k+1) ((k,p u)::Γ) U a'→K a')→K (a.put o.dst u)):relWalk P ops C fin (o::l) ((Spec.rel p::ss).zip (d::ds)) k Γ U a :=
 ⟨fun w hC hF=>relOp_plain hg (h1 w hC hF),fun u=>h2 u _ fun _ h=>h⟩
theorem relOp_on {o:Oper} {a:Act} {w:World} {p:Value→World→Prop} {g:Nat} {b:Bool} (hg:o.guard=some (g,b)) (hy:yielded ops a.tmps g=some b) (h:relAt P o a w p):relOp P ops o a w p:=by
 unfold relOp Region.wanted;rw [hg];simp only [hy,beq_self_eq_true,if_true];exact h
theorem relOp_off {o:Oper} {a:Act} {w:World} {p:Value→World→Prop} {g:Nat} {b c:Bool} (hg:o.guard=some (g,b)) (hy:yielded ops a.tmps g=some c) (hc:(c==b)=false) (h:p undef w):relOp P ops o a w p:=by
 unfold relOp Region.wanted;rw [hg];have:(some c==some b)=false:=by cases c<;>cases b<;>first|rfl|cases hc
 simp only [hy,this,Bool.false_eq_true,if_false];exact h
theorem relOp_none {o:Oper} {a:Act} {w:World} {p:Value→World→Prop} {g:Nat} {b:Bool} (hg:o.guard=some (g,b)) (hy:yielded ops a.tmps g=none) (h:p undef w):relOp P ops o a w p:=by
 unfold relOp Region.wanted;rw [hg];have:((none:Option Bool)==some b)=false:=rfl;simp only [hy,this,Bool.false_eq_true,if_false];exact h
theorem relWalk_exg {o:Oper} {l:List Oper} {v:Value} {ss:List Spec} {d:List Nat} {ds:List (List Nat)} {k:Nat} {Γ:Facts} {U:List Value} {a:Act} (h1:∀w,C w→factsOf Γ d w→relOp P ops o a w fun u _=>u=v)
 (h2:∀K:Act→Prop,(∀a',relWalk P ops C fin l (ss.zip ds) (k+1) Γ U a'→K a')→K (a.put o.dst v)):relWalk P ops C fin (o::l) ((Spec.ex v::ss).zip (d::ds)) k Γ U a :=
 ⟨fun w hC hF=>h1 w hC hF,h2 _ fun _ h=>h⟩
theorem relWalk_end {ss:List Spec} {ds:List (List Nat)} {k:Nat} {Γ:Facts} {U:List Value} {a:Act} (h:∀w,C w→factsAll Γ w→U.Pairwise (fun u v=>blkOf u≠blkOf v)→fin a w):relWalk P ops C fin [] (ss.zip ds) k Γ U a:=h
inductive Form
 | val
 | rel (p:Value→World→Prop)
 | new (p:Value→World→Prop)
def ExSpecs:List Form→(List Spec→Prop)→Prop
 | [],K=>K []
 | .val::l,K=>∃v,ExSpecs l fun ss=>K (.ex v::ss)
 | .rel p::l,K=>ExSpecs l fun ss=>K (.rel p::ss)
 | .new p::l,K=>ExSpecs l fun ss=>K (.new p::ss)
def formLast:List Form→Prop
 | []=>True
 | .val::l=>formLast l
 | .rel p::l=>Lasts p∧formLast l
 | .new p::l=>Lasts p∧formLast l
theorem exSpec_val {l:List Form} {K:List Spec→Prop} {v:Value} (h:ExSpecs l fun ss=>K (.ex v::ss)):ExSpecs (.val::l) K:=⟨v,h⟩
theorem exSpec_rel {l:List Form} {K:List Spec→Prop} {p:Value→World→Prop} (h:ExSpecs l fun ss=>K (.rel p::ss)):ExSpecs (.rel p::l) K:=h
theorem exSpec_new {l:List Form} {K:List Spec→Prop} {p:Value→World→Prop} (h:ExSpecs l fun ss=>K (.new p::ss)):ExSpecs (.new p::l) K:=h
theorem exSpecs_of:∀(l:List Form) (K:List Spec→Prop),formLast l→ExSpecs l K→∃ss,ss.length=l.length∧allLast ss∧K ss
 | [],K,_,h=>⟨[],rfl,trivial,h⟩
 | .val::l,K,hl,⟨v,h⟩=>by
  obtain ⟨ss,h1,h2,h3⟩:=exSpecs_of l _ hl h;exact ⟨.ex v::ss,by simp [h1],⟨trivial,h2⟩,h3⟩
 | .rel p::l,K,hl,h=>by
  obtain ⟨ss,h1,h2,h3⟩:=exSpecs_of l _ hl.2 h;exact ⟨.rel p::ss,by simp [h1],⟨hl.1,h2⟩,h3⟩
 | .new p::l,K,hl,h=>by
  obtain ⟨ss,h1,h2,h3⟩:=exSpecs_of l _ hl.2 h;exact ⟨.new p::ss,by simp [h1],⟨hl.1,h2⟩,h3⟩
theorem wp_region_rels {id:Nat} {Q:Exit→Act→World→Prop} {a:Act} {w:World} {l:List Oper} (n:Nat) (ds:List (List Nat)) (form:List Form) (C:World→Prop) (hm:P.follows .mixedOrders=true) (hB:relB l.toArray n ds=true) (hn:ds.length=n) (hs:form.length=n)
 (hC0:C w.drew) (hC:∀w w',C w→Below w.heap.size w w'→C w') (hlast:formLast form)
 (h:ExSpecs form fun ss=>relWalk P l.toArray C (fun a' w'=>wpList P l.toArray Q (l.drop n) a' w') (l.take n) (ss.zip ds) 0 [] [] a):(Code.region id l.toArray true).wp P Q a w:=by
 obtain ⟨ss,h1,h2,h3⟩:=exSpecs_of form _ hlast h;exact wp_region_rel n ds ss C hm hB hn (h1.trans hs) hC0 hC h2 h3
theorem relAt_load {o:Oper} {a:Act} {w:World} (ty:TypeId) (x:Operand) (ho:o.op=.load ty x) (g:Nat) (hx:a.eval x=.pointer (some ⟨g,0,none⟩)) (t:TypeId) (cs:Array Value) (d:TypeDesc) (hg:w.heap[g]? = some (.cells cs t (0,0)))
 (hu:P.underlying ty=some d) (hd:(match d with | .struct _ | .array _ _=>true | _=>false)=true) (hi:(P.info? ty).map (·.size)=some cs.size):relAt P o a w fun u _=>u=.agg cs:=by
 unfold relAt execOp;simp only [ho,hx,Instr.loadAt,Instr.sureAddr,Sem.run_bind,Sem.run_pure,Result.andThen_ok,run_loadVar_row w g t ty cs (0,0) d hg hu hd hi];exact ⟨Below.refl _ _,rfl⟩
attribute [go_sem] relAt relUpon
end
section
variable {P:Program} {ops:Array Oper} {C:World→Prop} {specs:List (Spec × List Nat)}
def PanicQ (a0:Act) (Q:Exit→Act→World→Prop) (ch:List PanicEntry) (w:World):Prop:=∀b:Act,({ b with tmps:=a0.tmps } : Act)=a0→Q (.panic ch) b w
theorem PanicQ.of {a0:Act} {Q:Exit→Act→World→Prop} {ch:List PanicEntry} {w:World} (h:∀b:Act,b.defers=a0.defers→Q (.panic ch) b w):PanicQ a0 Q ch w:=fun b hb=>h b (show b.defers=a0.defers by rw [←hb])
def failAt (P:Program) (o:Oper) (a0 a:Act) (Q:Exit→Act→World→Prop) (w:World):Prop :=
 match (execOp a.eval o).run P w with
 | .ok (.enter f args) w'=>Calls P f args w' fun e w''=>∃ch,e=.panicked ch∧PanicQ a0 Q ch w''
 | _=>False
attribute [go_sem] failAt
end
end Go.Proofs.YtboagmbmmoomiaaGreatDoor
