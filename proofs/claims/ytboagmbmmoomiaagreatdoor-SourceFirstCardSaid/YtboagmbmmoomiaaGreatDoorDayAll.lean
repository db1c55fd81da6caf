/-
  Words for memory that the walks of this seat share: a slice that reads as a list (nil let in), an append of such a slice, a row of the call's own as a slice that reads.
  A block of memory that is known whole.
  The package-level tables as cells of memory; plain day forms.
  Small words that the walks share: strings joined; a contract that keeps cells.
  strings.HasPrefix: what the call returns.
  word.small: what the call returns.
  dayform.Check: what the call returns.
  strings.IndexByte, and strings.IndexRune in the string of the two signs: what each call returns.
  word.beginning and its iterator: what it yields.
  strings.IndexAny of any string and the two signs: the index of the first sign.
  word.find: what the call returns.
  word.numbered, word.Week, dayspec.week: what each call returns.
  strings.EqualFold of any four bytes and the word "last".
  word.short of the weekdays, word.WeekText.
  word.short, word.WeekText, dayspec.number.
  dayspec.compared, dayspec.Parse: what the calls return.
  dayspec.Print: what the call returns.
-/
import Derived.WalkKit
import Derived.WalkSpells
import Derived.WalkLawsBesides
import Derived.Below
import Derived.Laws.OwnMore
import Derived.Deep.AppendLies
import Derived.Deep.Draws
import Derived.Maps.AppendAt
import Derived.RegionTactic
import Derived.OwnWalk
import Derived.Lib.Hide
import Derived.Shelf.Bytes.SlEqualAll
import Derived.Laws.Rows
import Derived.Test.YtboagmbmmoomiaaGreatDoorProg
import Derived.Lib.Bytealg
import Derived.Lib.Strings
import Derived.Lib.IndexBytes
import Derived.Laws.IdiomStrings
import Derived.Laws.EntriesVeiled
import Derived.Laws.RangeAny
import Derived.Laws.RangeString
import Derived.WalkMore
import Derived.BigQuiet
import Derived.Deep.QuietTactic
import Derived.RangeFuncNested
import Derived.RangeFuncBound
import Derived.RangeFuncCalls
import Derived.RangeFuncLeaves
import Derived.RangeFuncFrom
import Derived.Shelf.Abstract
import Derived.Shelf.RegionOpen
import Derived.OwnWalkIn
import Derived.TacticsInMore
import Derived.LoopNIn
import Derived.LoopIn
import Derived.Test.YtboagmbmmoomiaaGreatDoorShelf
import Derived.Lib.IndexAny
import Derived.Lib.OthersKept
import Derived.WalkSmall
import Derived.RangeFuncBox
import Derived.RegionIn
import Derived.OrdersIn
import Derived.Lib.Fold
import Derived.Lib.Case
import Derived.Laws.Strings3
import Derived.ScopeJumps
import Derived.Deep.LoopGhost
import Derived.Deep.RegionHeld3
import Derived.Lib.SlTrimSet
import Derived.Handy
set_option linter.unusedVariables false
set_option maxRecDepth 100000
set_option maxHeartbeats 4000000
namespace Go.Proofs.YtboagmbmmoomiaaGreatDoor
open Go.Lib (hid)
open Go.RowKit
theorem block_of_add (a:Addr) (n:Nat):(a.add n).block=a.block:=by unfold Addr.add;split<;>rfl
theorem add_of_add (a:Addr) (i j:Nat):(a.add i).add j=a.add (i+j):=by
 unfold Addr.add
 by_cases hi:i=0<;>by_cases hj:j=0<;>simp [hi,hj,Nat.add_assoc]
def Reads (w:World) (B size:Nat) (A:Option Addr) (n:Nat) (xs:List Value):Prop :=
 xs.length=n*size∧(0<n→∃ad,A=some ad∧ad.block<B∧∀j u,xs[j]? = some u→w.cell? (ad.add j)=some u)
section
variable {w w':World} {B B' size n:Nat} {A:Option Addr} {xs:List Value}
theorem Reads.none_:Reads w B size A 0 []:=⟨by simp,fun h=>absurd h (by omega)⟩
theorem Reads.at_ {k:Nat} (h:Reads w B 1 A n xs) (hk:k<n):∃ad u,A=some ad∧ad.block<B∧xs[k]? = some u∧w.cell? (ad.add k)=some u:=by
 obtain ⟨ad,e,hb,hc⟩:=h.2 (by omega);have hl:k<xs.length:=by have:=h.1;omega
 exact ⟨ad,xs[k],e,hb,List.getElem?_eq_getElem hl,hc k _ (List.getElem?_eq_getElem hl)⟩
theorem Reads.keep (h:Reads w B size A n xs) (hk:∀p:Addr,p.block<B→w'.cell? p=w.cell? p):Reads w' B size A n xs :=
 ⟨h.1,fun hn=>by
  obtain ⟨ad,e,hb,hc⟩:=h.2 hn;exact ⟨ad,e,hb,fun j u hu=>(hk _ (by rw [block_of_add];exact hb)).trans (hc j u hu)⟩⟩
theorem Reads.below (h:Reads w B size A n xs) (hb:Below B w w'):Reads w' B size A n xs:=h.keep fun _ hp=>hb.cell hp
theorem Reads.drew (h:Reads w B size A n xs):Reads w.drew B size A n xs:=h
theorem Reads.drewN (h:Reads w B size A n xs) (k:Nat):Reads (w.drewN k) B size A n xs:=h
theorem Reads.alloc (h:Reads w B size A n xs) (hB:B≤w.heap.size) (o:Obj):Reads (w.alloc o) B size A n xs:=h.keep fun p hp=>World.cell?_alloc_lt w o p (by omega)
theorem Reads.setCell (h:Reads w B size A n xs) {p:Addr} (hB:B≤p.block) (u:Value):Reads (w.setCell p u) B size A n xs :=
 h.keep fun q hq=>World.cell?_setCell_other w p q u (fun e=>by subst e;omega)
theorem Reads.grown (h:Reads w B size A n xs) {row:Option Nat} (hg:w.grownBy w' row) (hB:B≤w.heap.size) (hr:∀g,row=some g→B≤g):Reads w' B size A n xs :=
 h.keep fun p hp=>World.cell?_of_block (hg.block p.block (by omega) (fun e=>by have:=hr _ e.symm;omega))
theorem Reads.cut (h:Reads w B size A n xs) {k cap:Nat} (hk:k≤n) (hc:n≤cap) :
 Reads w B size (if cap=k then A else A.map (·.add (k*size))) (n-k) (xs.drop (k*size)):=by
 refine ⟨by rw [List.length_drop,h.1,Nat.sub_mul],fun hn=>?_⟩;obtain ⟨ad,rfl,hb,hcell⟩:=h.2 (by omega);rw [if_neg (by omega)];refine ⟨ad.add (k*size),rfl,by rw [block_of_add];exact hb,fun j u hu=>?_⟩;rw [add_of_add];exact hcell _ u (by rw [←hu,List.getElem?_drop])
theorem Reads.take (h:Reads w B size A n xs) {k:Nat} (hk:k≤n):Reads w B size A k (xs.take (k*size)):=by
 refine ⟨by rw [List.length_take,h.1];exact Nat.min_eq_left (Nat.mul_le_mul_right _ hk),fun hn=>?_⟩;obtain ⟨ad,rfl,hb,hcell⟩:=h.2 (by omega);refine ⟨ad,rfl,hb,fun j u hu=>hcell j u ?_⟩;rw [List.getElem?_take] at hu
 split at hu
 ·exact hu
 ·cases hu
theorem Reads.of_own {base:Nat} {e:TypeId} {c:Nat} (h:w.ownsRow base e size (.slice A n c) n xs):Reads w w.heap.size size A n xs:=by
 refine ⟨h.1,fun hn=>?_⟩;obtain ⟨g,cap,hv,_,hlt⟩:=h.form hn;have hA:A=some ⟨g,0,none⟩:=by injection hv
 subst hA;exact ⟨_,rfl,hlt,h.cells (g:=g) rfl⟩
end
section
variable {P:Program} (w:World)
theorem own_base {w:World} {base e size n:Nat} {v:Value} {xs:List Value} (h:w.ownsRow base e size v n xs):∀k,v.ownBlock=some k→base≤k:=by
 intro k hk
 rcases h.2 with ⟨rfl,_⟩|⟨g,cap,cur,rfl,hg,_⟩
 ·simp [Value.ownBlock] at hk
 ·simp [Value.ownBlock] at hk;omega
theorem run_append_of_nil (base:Nat) (t ty e:TypeId) (i:TypeInfo) (size:Nat) (ht:P.underlying t=some (.slice e)) (hi:P.info? e=some i)
 (v:Value) (n:Nat) (xs:List Value) (hown:w.ownsRow base e size v n xs) (c:Nat):(Builtin.append_ #[t,t] ty #[v,.slice none 0 c]).run P w=.ok v w:=by
 rcases hown.2 with ⟨rfl,rfl⟩|⟨g,cap,cur,rfl,_,_,hnc,_⟩
 ·simp [Builtin.append_,run_underlying ht,sizeOf,typeInfo,hi,Builtin.lenOf,Builtin.firstCells]
 ·simp [Builtin.append_,run_underlying ht,sizeOf,typeInfo,hi,Builtin.lenOf,Builtin.firstCells,hnc,storeCells]
theorem run_append_any (base:Nat) (t ty e:TypeId) (i:TypeInfo) (z:Value) (size bytes:Nat) (ht:P.underlying t=some (.slice e)) (hi:P.info? e=some i) (hz:i.zero=some z)
 (hsize:i.size=size) (hby:i.bytes=bytes) (hzs:z.cells.size=size) (hsz:0<size)
 (v:Value) (n:Nat) (xs:List Value) (hown:w.ownsRow base e size v n xs)
 (B:Nat) (A:Option Addr) (m c:Nat) (news:List Value) (hr:Reads w B size A m news) (h1:∀u ∈ news,u.oneCell'=true)
 (h63:n+m≤maxLen) (hbytes:(n+m)*bytes≤140737488355328) (hbase:base≤w.heap.size) :
 ∃v' w',(Builtin.append_ #[t,t] ty #[v,.slice A m c]).run P w=.ok v' w'∧w'.ownsRow base e size v' (n+m) (xs++news)∧w.grownBy w' v.ownBlock ∧
  (v'.ownBlock=v.ownBlock∨v'.ownBlock=some w.heap.size):=by
 rcases A with _|ad
 ·have hm:m=0:=by
   rcases Nat.eq_zero_or_pos m with h0|h0
   ·exact h0
   ·obtain ⟨ad,h,_⟩:=hr.2 h0
    cases h
  subst hm;have hn:news=[]:=List.eq_nil_of_length_eq_zero (by simpa using hr.1);subst hn;exact ⟨v,w,run_append_of_nil w base t ty e i size ht hi v n xs hown c,by simpa using hown,World.grownBy.refl w _,.inl rfl⟩
 ·have hcells:∀j u,news[j]? = some u→w.cell? (ad.add j)=some u:=by
   intro j u hu
   rcases Nat.eq_zero_or_pos m with h0|h0
   ·subst h0
    have hn:news=[]:=List.eq_nil_of_length_eq_zero (by simpa using hr.1);subst hn
    simp at hu
   ·obtain ⟨ad',h,_,hc⟩:=hr.2 h0
    injection h with h
    subst h;exact hc j u hu
  obtain ⟨v',w',hrun,h2,h3,_,h5⟩:=run_append_own_at (P:=P) w base t ty e i z size bytes ht hi hz hsize hby hzs hsz v n xs hown ad m c news hr.1 hcells h1 h63 hbytes hbase;exact ⟨v',w',hrun,h2,h3,h5⟩
theorem wp_append_any {o:Oper} {a:Act} {K:Act→World→Prop} {Q:Exit→Act→World→Prop} (s x:Operand) (t:TypeId)
 (ho:o.op=.call { callee:=.builtin .append,args:=#[s,x],argTypes:=#[t,t] })
 (base:Nat) (e:TypeId) (i:TypeInfo) (z:Value) (size bytes:Nat) (ht:P.underlying t=some (.slice e)) (hi:P.info? e=some i) (hz:i.zero=some z)
 (hsize:i.size=size) (hby:i.bytes=bytes) (hzs:z.cells.size=size) (hsz:0<size)
 (v:Value) (n:Nat) (xs:List Value) (hs:a.eval s=v) (hown:w.ownsRow base e size v n xs)
 (B:Nat) (A:Option Addr) (m c:Nat) (news:List Value) (hx:a.eval x=.slice A m c) (hr:Reads w B size A m news) (h1:∀u ∈ news,u.oneCell'=true)
 (h63:n+m≤maxLen) (hbytes:(n+m)*bytes≤140737488355328) (hbase:base≤w.heap.size)
 (h:∀v' w',w'.ownsRow base e size v' (n+m) (xs++news)→w.grownBy w' v.ownBlock→(v'.ownBlock=v.ownBlock∨v'.ownBlock=some w.heap.size)→K (a.put o.dst v') w'):o.wp P a w K Q:=by
 obtain ⟨v',w',hrun,h2,h3,h4⟩:=run_append_any (P:=P) w base t o.type e i z size bytes ht hi hz hsize hby hzs hsz v n xs hown B A m c news hr h1 h63 hbytes hbase;unfold Oper.wp execOp;simp only [ho,resolve,invoke,builtin,Sem.run_bind,Sem.run_pure,Result.andThen_ok,List.map_toArray,List.map_cons,List.map_nil,hs,hx,hrun];exact h v' w' h2 h3 h4
theorem wpList_append_any {ops:Array Oper} {rest:List Oper} {o:Oper} {a:Act} {Q:Exit→Act→World→Prop} (hgd:o.guard=none) (s x:Operand) (t:TypeId)
 (ho:o.op=.call { callee:=.builtin .append,args:=#[s,x],argTypes:=#[t,t] })
 (base:Nat) (e:TypeId) (i:TypeInfo) (z:Value) (size bytes:Nat) (ht:P.underlying t=some (.slice e)) (hi:P.info? e=some i) (hz:i.zero=some z)
 (hsize:i.size=size) (hby:i.bytes=bytes) (hzs:z.cells.size=size) (hsz:0<size)
 (v:Value) (n:Nat) (xs:List Value) (hs:a.eval s=v) (hown:w.ownsRow base e size v n xs)
 (B:Nat) (A:Option Addr) (m c:Nat) (news:List Value) (hx:a.eval x=.slice A m c) (hr:Reads w B size A m news) (h1:∀u ∈ news,u.oneCell'=true)
 (h63:n+m≤maxLen) (hbytes:(n+m)*bytes≤140737488355328) (hbase:base≤w.heap.size)
 (h:∀v' w',w'.ownsRow base e size v' (n+m) (xs++news)→w.grownBy w' v.ownBlock→(v'.ownBlock=v.ownBlock∨v'.ownBlock=some w.heap.size)→wpList P ops Q rest (a.put o.dst v') w'):wpList P ops Q (o::rest) a w :=
 wpList_plain hgd fun _ hK=>wp_append_any w s x t ho base e i z size bytes ht hi hz hsize hby hzs hsz v n xs hs hown B A m c news hx hr h1 h63 hbytes hbase fun v' w' h2 h3 h4=>hK _ _ (h v' w' h2 h3 h4)
end
def Blk (w:World) (g:Nat) (t:TypeId) (cs:Array Value):Prop:=w.heap[g]? = some (.cells cs t (0,0))
section
variable {w w':World} {g:Nat} {t:TypeId} {cs:Array Value}
theorem Blk.lt (h:Blk w g t cs):g<w.heap.size:=by
 rcases Nat.lt_or_ge g w.heap.size with hlt|hge
 ·exact hlt
 ·unfold Blk at h;rw [Array.getElem?_eq_none hge] at h;cases h
theorem Blk.cell (h:Blk w g t cs) (i:Nat):w.cell? ⟨g,i,none⟩=cs[i]?:=cell_of_row w g i cs t (0,0) h
theorem Blk.frozen (h:Blk w g t cs) (i:Nat):w.frozen? ⟨g,i,none⟩=false:=by
 unfold Blk at h
 simp [World.frozen?,h]
theorem Blk.new (w:World) (t:TypeId) (cs:Array Value):Blk (w.alloc (.cells cs t)) w.heap.size t cs:=heap_alloc_new w _
theorem Blk.new' (w:World) (t:TypeId) (cs:Array Value) (h:g=w.heap.size):Blk (w.alloc (.cells cs t)) g t cs:=by subst h;exact Blk.new w t cs
theorem Blk.drew (h:Blk w g t cs):Blk w.drew g t cs:=h
theorem Blk.drewN (h:Blk w g t cs) (n:Nat):Blk (w.drewN n) g t cs:=h
theorem Blk.alloc (h:Blk w g t cs) (o:Obj):Blk (w.alloc o) g t cs:=(Below.heap_alloc w o g h.lt).trans h
theorem Blk.below {B:Nat} (h:Blk w g t cs) (hb:Below B w w') (hg:g<B):Blk w' g t cs:=(hb.block g hg).trans h
end
theorem Blk.set_ {w:World} {g:Nat} {t:TypeId} {cs:Array Value} (h:Blk w g t cs) (i:Nat) (u:Value):Blk (w.setCell ⟨g,i,none⟩ u) g t (cs.setIfInBounds i u):=by
 unfold Blk at h ⊢
 simp [World.setCell,Array.getElem?_modify,h]
theorem Blk.far {w:World} {g:Nat} {t:TypeId} {cs:Array Value} (h:Blk w g t cs) {p:Addr} (hp:g≠p.block) (u:Value):Blk (w.setCell p u) g t cs:=(Below.heap_setCell w p u g hp).trans h
theorem Blk.cell_ {w:World} {g:Nat} {t:TypeId} {cs:Array Value} (h:Blk w g t cs) {i:Nat} {u:Value} (hu:cs[i]? = some u):w.cell? ⟨g,i,none⟩=some u:=(h.cell i).trans hu
def weekL:List (List UInt8):=[[115,117,110,100,97,121],[109,111,110,100,97,121],[116,117,101,115,100,97,121],[119,101,100,110,101,115,100,97,121],[116,104,117,114,115,100,97,121],[102,114,105,100,97,121],[115,97,116,117,114,100,97,121]]
structure Kinds (w:World):Prop where
 w1:w.cell? ⟨2,3,none⟩=some (.bool false)
 d1:w.cell? ⟨2,4,none⟩=some (.bool true)
 w2:w.cell? ⟨2,6,none⟩=some (.bool true)
 d2:w.cell? ⟨2,7,none⟩=some (.bool false)
 w3:w.cell? ⟨2,9,none⟩=some (.bool true)
 d3:w.cell? ⟨2,10,none⟩=some (.bool true)
 w4:w.cell? ⟨2,12,none⟩=some (.bool true)
 d4:w.cell? ⟨2,13,none⟩=some (.bool true)
 f1:w.cell? ⟨2,5,none⟩=some (.func (.func 271) #[] #[])
 f2:w.cell? ⟨2,8,none⟩=some (.func (.func 272) #[] #[])
 f3:w.cell? ⟨2,11,none⟩=some (.func (.func 274) #[] #[])
 f4:w.cell? ⟨2,14,none⟩=some (.func (.func 276) #[] #[])
theorem Kinds.below {w w':World} (h:Kinds w) (hb:Below w.heap.size w w'):Kinds w':=by
 have k:∀ {i:Nat} {v:Value},w.cell? ⟨2,i,none⟩=some v→w'.cell? ⟨2,i,none⟩=some v:=fun hc=>(hb.cell (block_lt_of_cell hc)).trans hc
 exact ⟨k h.w1,k h.d1,k h.w2,k h.d2,k h.w3,k h.d3,k h.w4,k h.d4,k h.f1,k h.f2,k h.f3,k h.f4⟩
def Weeks (w:World):Prop:=∀i l,weekL[i]? = some l→w.cell? ⟨3,i,none⟩=some (.string ⟨l.toArray⟩)
theorem Weeks.below {w w':World} (h:Weeks w) (hb:Below w.heap.size w w'):Weeks w':=fun i l hl=>(hb.cell (block_lt_of_cell (h i l hl))).trans (h i l hl)
def rightDay (k wk d:Int):Bool :=
 (k==1&&wk==0&&decide (1≤d∧d≤31))||(k==2&&decide (0≤wk∧wk≤6)&&d==0)||((k==3||k==4)&&decide (0≤wk∧wk≤6)&&decide (1≤d∧d≤31))
def checkR (k wk d:Int):Int:=if rightDay k wk d=true then 0 else 2
theorem ba_append (a b:Array UInt8):(⟨a⟩++⟨b⟩:ByteArray)=⟨a++b⟩:=by apply ByteArray.ext;simp
theorem ba_list (s:ByteArray):(⟨s.data.toList.toArray⟩:ByteArray)=s:=by apply ByteArray.ext;simp
theorem held3 {P:Program} {f:FuncId} {args:Array Value} {w:World} {E:Ending} (h:Calls P f args w fun e w'=>e=E∧Below w.heap.size w w') {p0 p1 p2:Addr} {v0 v1 v2:Value}
 (c0:w.cell? p0=some v0) (c1:w.cell? p1=some v1) (c2:w.cell? p2=some v2) :
 Calls P f args w fun e w'=>e=E∧Below w.heap.size w w'∧w'.cell? p0=some v0∧w'.cell? p1=some v1∧w'.cell? p2=some v2 :=
 h.mono fun e w' ⟨h1,h2⟩=>⟨h1,h2,(h2.cell (block_lt_of_cell c0)).trans c0,(h2.cell (block_lt_of_cell c1)).trans c1,(h2.cell (block_lt_of_cell c2)).trans c2⟩
theorem Blk.three {w:World} {g:Nat} {t:TypeId} {a b c:Value} (h:Blk w g t #[a,b,c]) :
 w.cell? ⟨g,0,none⟩=some a∧w.cell? ⟨g,1,none⟩=some b∧w.cell? ⟨g,2,none⟩=some c∧w.frozen? ⟨g,0,none⟩=false∧w.frozen? ⟨g,1,none⟩=false∧w.frozen? ⟨g,2,none⟩=false :=
 ⟨h.cell_ rfl,h.cell_ rfl,h.cell_ rfl,h.frozen 0,h.frozen 1,h.frozen 2⟩
theorem list_upto (s:ByteArray) (i:Nat):(s.extract 0 i).data.toList=s.data.toList.take i:=by simp
theorem list_from (s:ByteArray) (i:Nat):(s.extract i s.size).data.toList=s.data.toList.drop i:=by
 rw [Lib.extract_data];apply List.take_of_length_le;simp
theorem size_part (s:ByteArray) (i j n:Nat) (h:s.size≤n):(s.extract i j).size≤n:=by rw [ByteArray.size_extract];omega
theorem below_drawn {B:Nat} {a w:World} (h:Below B a w) (n:Nat):Below B a (w.drewN n):=⟨h.os,h.tape,h.output,h.size,h.block⟩
theorem pre_take {l p:List UInt8} : (l.take p.length==p)=Lib.hasPrefix l p:=by
 rw [Bool.eq_iff_iff,beq_iff_eq,Lib.hasPrefix,List.isPrefixOf_iff_prefix];exact ⟨fun e=>e ▸ List.take_prefix _ _,fun e=>(List.prefix_iff_eq_take.1 e).symm⟩
theorem pre_short {l p:List UInt8} (h:l.length<p.length):Lib.hasPrefix l p=false:=by
 rw [Bool.eq_false_iff,Lib.hasPrefix,Ne,List.isPrefixOf_iff_prefix];exact fun e=>by have:=e.length_le;omega
theorem size_data (s:ByteArray):s.data.toList.length=s.size:=by simp
theorem lprefix_any (s p:ByteArray) (w:World) :
 Calls Tryz.prog 207 #[.string s,.string p] w fun e w'=>e=.returned (.bool (Lib.hasPrefix s.data.toList p.data.toList))∧w=w':=by
 by_cases h:p.size≤s.size
 ·have HE:=hid (show ((s.extract 0 p.size).toList==p.toList)=Lib.hasPrefix s.data.toList p.data.toList by
   rw [Lib.toList_data,Lib.toList_data,Lib.extract_data,List.drop_zero,Nat.sub_zero,←size_data p,pre_take])
  go_enter Tryz.func207,Tryz.ntmps207
  go_wp2
  go_ret
  exact ⟨by rw [←HE.out];rfl,rfl⟩
 ·have HE:=hid (show Lib.hasPrefix s.data.toList p.data.toList=false from pre_short (by rw [size_data,size_data];omega))
  go_enter Tryz.func207,Tryz.ntmps207
  go_wp2
  go_ret
  exact ⟨by rw [HE.out];rfl,rfl⟩
theorem prefix_any (s p:ByteArray) (w:World) :
 Calls Tryz.prog 189 #[.string s,.string p] w fun e w'=>e=.returned (.bool (Lib.hasPrefix s.data.toList p.data.toList))∧w=w':=by
 go_enter Tryz.func189,Tryz.ntmps189;go_wp2_with (go_at_call 207;refine (lprefix_any _ _ _).mono ?_;rintro e w' ⟨rfl,rfl⟩)
 go_ret
 exact ⟨rfl,rfl⟩
def lowA (c:UInt8):UInt8:=if 65≤c∧c≤90 then c+32 else c
def smallL (l:List UInt8):List UInt8:=l.map lowA
def lowZ (c:Int):Int:=if 65≤c∧c≤90 then c+32 else c
theorem lowZ_A (c:UInt8):UInt8.ofNat (lowZ c.toNat).toNat=lowA c:=by
 unfold lowZ lowA
 have h1:(65≤(c.toNat:Int)∧(c.toNat:Int)≤90)↔(65≤c∧c≤90):=by
  simp [UInt8.le_iff_toNat_le];omega
 by_cases h:65≤c∧c≤90
 ·rw [if_pos (h1.2 h),if_pos h]
  have h2:=h1.2 h
  apply UInt8.toNat_inj.1
  rw [UInt8.toNat_ofNat',UInt8.toNat_add];have:(32:UInt8).toNat=32:=rfl
  omega
 ·rw [if_neg (fun h'=>h (h1.1 h')),if_neg h]
  simp
def zs (s:ByteArray):List Int:=s.data.toList.map fun c=>(c.toNat:Int)
theorem zs_len (s:ByteArray):(zs s).length=s.size:=by simp [zs]
theorem zs_bd (s:ByteArray):∀c ∈ zs s,0≤c∧c<256:=by
 intro c hc;obtain ⟨b,_,rfl⟩:=List.mem_map.1 hc;have:=b.toNat_lt
 omega
theorem str_zs (s:ByteArray):strOfNums ((zs s).map lowZ)=⟨(smallL s.data.toList).toArray⟩:=by
 unfold strOfNums zs smallL
 congr 2
 rw [List.map_map,List.map_map]
 apply List.map_congr_left
 intro c _;exact lowZ_A c
def Row8 (w:World) (g:Nat) (xs:List Int):Prop:=∀i,i<xs.length→w.cell? ⟨g,i,none⟩=some (.int .u8 (xs.getD i 0))∧w.frozen? ⟨g,i,none⟩=false
theorem Row8.set {w:World} {g:Nat} {xs:List Int} (h:Row8 w g xs) (k:Nat) (hk:k<xs.length) (y:Int):Row8 (w.setCell ⟨g,k,none⟩ (.int .u8 y)) g (xs.set k y):=by
 intro i hi;rw [List.length_set] at hi;obtain ⟨h1,h2⟩:=h i hi;rw [World.frozen?_setCell];refine ⟨?_,h2⟩
 by_cases hik:k=i
 ·subst hik
  rw [World.cell?_setCell_same' _ _ _ (by rw [h1];rfl)]
  simp [List.getD,List.getElem?_set_self hk]
 ·rw [World.cell?_setCell_other _ _ _ _ (by simp),h1]
  simp [List.getD,List.getElem?_set_ne hik]
theorem row8_start (w:World) (s:ByteArray) (c:Nat) (e:TypeId):Row8 (w.alloc (.cells (bytesRow s c) e ((bytesRow s c).size,(bytesRow s c).size+1))).drew w.heap.size (zs s):=by
 intro i hi;rw [zs_len] at hi;have hh:(w.alloc (.cells (bytesRow s c) e ((bytesRow s c).size,(bytesRow s c).size+1))).heap[w.heap.size]? = some (.cells (bytesRow s c) e ((bytesRow s c).size,(bytesRow s c).size+1)):=heap_alloc_new w _;have hsz:i<(bytesRow s c).size:=by simp [bytesRow];have:s.data.size=s.size:=rfl;omega
 refine ⟨?_,?_⟩
 ·show (w.alloc (.cells (bytesRow s c) e ((bytesRow s c).size,(bytesRow s c).size+1))).cell? ⟨w.heap.size,i,none⟩=_
  rw [cell_of_row _ _ i _ _ _ hh,bytesRow_at s c i hi]
  simp [zs,List.getD,List.getElem?_eq_getElem (show i<s.data.toList.length by simpa using hi)]
 ·show (w.alloc (.cells (bytesRow s c) e ((bytesRow s c).size,(bytesRow s c).size+1))).frozen? ⟨w.heap.size,i,none⟩=false
  simp only [World.frozen?,hh]
  simp
  omega
def lowTo (xs:List Int) (k:Nat):List Int:=(xs.take k).map lowZ++xs.drop k
theorem lowTo_len (xs:List Int) (k:Nat) (h:k≤xs.length):(lowTo xs k).length=xs.length:=by simp [lowTo];omega
theorem lowTo_at (xs:List Int) (k:Nat) (h:k<xs.length):(lowTo xs k).getD k 0=xs.getD k 0:=by
 simp [lowTo,List.getD,List.getElem?_append,Nat.min_eq_left (Nat.le_of_lt h)]
theorem lowTo_split (xs:List Int) (k:Nat) (h:k<xs.length):lowTo xs k=(xs.take k).map lowZ++xs.getD k 0::xs.drop (k+1):=by
 rw [lowTo,List.drop_eq_getElem_cons h];simp [List.getD,List.getElem?_eq_getElem h]
theorem lowTo_succ (xs:List Int) (k:Nat) (h:k<xs.length):lowTo xs (k+1)=(xs.take k).map lowZ++lowZ (xs.getD k 0)::xs.drop (k+1):=by
 rw [lowTo,List.take_succ_eq_append_getElem h,List.map_append,List.append_assoc];simp only [List.getD,List.getElem?_eq_getElem h,List.map_cons,List.map_nil,List.cons_append,List.nil_append,Option.getD_some]
theorem lowTo_step (xs:List Int) (k:Nat) (h:k<xs.length):(lowTo xs k).set k (lowZ (xs.getD k 0))=lowTo xs (k+1):=by
 have hk:((xs.take k).map lowZ).length=k:=by simp;omega
 rw [lowTo_split xs k h,lowTo_succ xs k h,List.set_append_right _ _ (by omega),hk,Nat.sub_self,List.set_cons_zero]
theorem lowTo_same (xs:List Int) (k:Nat) (h:k<xs.length) (hl:lowZ (xs.getD k 0)=xs.getD k 0):lowTo xs k=lowTo xs (k+1):=by
 rw [lowTo_split xs k h,lowTo_succ xs k h,hl]
theorem lowTo_full (xs:List Int):lowTo xs xs.length=xs.map lowZ:=by simp [lowTo]
theorem small_any (s:ByteArray) (w:World) (hs:s.size≤1048576) :
 Calls Tryz.prog 165 #[.string s] w fun e w'=>e=.returned (.string ⟨(smallL s.data.toList).toArray⟩)∧Below w.heap.size w w':=by
 have hcv:=run_bytes_of_string (P:=Tryz.prog) w 9 22 5 s Tryz.underlying9 Tryz.underlying22 Tryz.underlying5
 go_enter Tryz.func165,Tryz.ntmps165;go_wp2_with fail
 clear hcv;have hst:=hid (row8_start w s (grownCap w s.size 0 5) 5);have hbl:Below w.heap.size w (w.alloc (.cells (bytesRow s (grownCap w s.size 0 5)) 5 ((bytesRow s (grownCap w s.size 0 5)).size,(bytesRow s (grownCap w s.size 0 5)).size+1))).drew:=((Below.refl _ w).alloc (Nat.le_refl _) _).drew;have HB:=hid hbl;clear hbl;have hz:=zs_len s;have HZ:=hid hz;have HBD:=hid (zs_bd s);clear hz;generalize (w.alloc (.cells (bytesRow s (grownCap w s.size 0 5)) 5 ((bytesRow s (grownCap w s.size 0 5)).size,(bytesRow s (grownCap w s.size 0 5)).size+1))).drew=W0 at *;generalize grownCap w s.size 0 5=cap at *
 go_loopw [10] (fun i wr=>∃k:Nat,k≤s.size∧i=.int .i64 k∧Row8 wr w.heap.size (lowTo (zs s) k)∧Below w.heap.size w wr) (fun i _=>s.size-(intOf i).toNat)
 case atStart=>exact ⟨0,Nat.zero_le _,rfl,by simpa [lowTo] using hst.out,HB.out⟩
 case round =>
  obtain ⟨k,hk,rfl,hR,hb⟩:=hrel
  by_cases hlt:k<s.size
  ·have hkl:k<(zs s).length:=by rw [HZ.out];exact hlt
   have hrow:=hR k (by rw [lowTo_len _ _ (by omega)];exact hkl);rw [lowTo_at _ _ hkl] at hrow;obtain ⟨hc,hf⟩:=hrow;have hbd:=HBD.out ((zs s).getD k 0) (by simp [List.getD,List.getElem?_eq_getElem hkl]);have HRow:=hid hR;have HS:=hid (lowTo_step (zs s) k hkl);have HSame:=hid (lowTo_same (zs s) k hkl);clear hR;generalize (zs s).getD k 0=c at *;have hd:decide ((k:Int)<(s.size:Int))=true:=by simp;omega
   by_cases h65:65≤c
   ·by_cases h90:c≤90
    ·go_wp2_with fail
     refine ⟨⟨k+1,by omega,by go_num,?_,hb.setCell (Nat.le_refl _) _⟩,by simp [intOf];omega⟩;rw [←HS.out,show c-65+97=lowZ c by rw [lowZ,if_pos ⟨h65,h90⟩];omega];exact Row8.set HRow.out k (by rw [lowTo_len _ _ (by omega)];exact hkl) _
    ·go_wp2_with fail
     go_roundw
     case rel=>exact ⟨k+1,by omega,by go_num,by rw [←HSame.out (by rw [lowZ,if_neg (by omega)])];exact HRow.out,hb⟩
     case measure=>simp [intOf];omega
   ·go_wp2_with fail
    go_roundw
    case rel=>exact ⟨k+1,by omega,by go_num,by rw [←HSame.out (by rw [lowZ,if_neg (by omega)])];exact HRow.out,hb⟩
    case measure=>simp [intOf];omega
  ·obtain rfl:k=s.size:=by omega
   have hd:decide ((s.size:Int)<(s.size:Int))=false:=by simp
   have hin:Lib.BytesIn wr (some ⟨w.heap.size,0,none⟩) s.size ((zs s).map lowZ):=Lib.BytesIn.of_cells fun i hi=>by
    have:=(hR i (by rw [lowTo_len _ _ (by rw [HZ.out];exact Nat.le_refl _),HZ.out];exact hi)).1;rw [←HZ.out,lowTo_full] at this;rw [←this]
    congr 1
    by_cases h0:i=0<;>simp [Addr.add,h0]
   have hcv:=Lib.BytesIn.convert (P:=Tryz.prog) hin (by rw [List.length_map];exact HZ.out) cap 22 5 9 Tryz.underlying22 Tryz.underlying5 Tryz.underlying9;rw [str_zs] at hcv;clear hR hin;go_wp2_with fail
   go_ret
   exact ⟨rfl,hb⟩
theorem check_yes {k wk d:Int} (h:rightDay k wk d=true):Ending.returned (.int .i64 0)=.returned (.int .i64 (checkR k wk d)):=by rw [checkR,if_pos h]
theorem check_no {k wk d:Int} (h:¬rightDay k wk d=true):Ending.returned (.int .i64 2)=.returned (.int .i64 (checkR k wk d)):=by rw [checkR,if_neg h]
theorem check_any (k wk d:Int) (w:World) (hK:Kinds w) :
 Calls Tryz.prog 60 #[.agg #[.int .i64 k,.int .i64 wk,.int .i64 d]] w fun e w'=>e=.returned (.int .i64 (checkR k wk d))∧Below w.heap.size w w':=by
 by_cases h1:k<1
 ·have HR:=hid (show checkR k wk d=2 by rw [checkR,if_neg (by simp [rightDay];omega)])
  clear hK
  go_enter Tryz.func60,Tryz.ntmps60
  go_wp2
  go_ret
  rw [HR.out];exact ⟨rfl,(Below.refl _ _).alloc (Nat.le_refl _) _⟩
 by_cases h4:4<k
 ·have HR:=hid (show checkR k wk d=2 by rw [checkR,if_neg (by simp [rightDay];omega)])
  clear hK
  go_enter Tryz.func60,Tryz.ntmps60
  go_wp2
  go_ret
  rw [HR.out];exact ⟨rfl,(Below.refl _ _).alloc (Nat.le_refl _) _⟩
 have hk:k=1∨k=2∨k=3∨k=4:=by omega
 clear h1 h4;obtain ⟨w1,d1,w2,d2,w3,d3,w4,d4,f1,f2,f3,f4⟩:=hK
 rcases hk with rfl|rfl|rfl|rfl
 ·clear w2 d2 w3 d3 w4 d4 f2 f3 f4
  have hlt:=block_lt_of_cell w1
  go_enter Tryz.func60,Tryz.ntmps60
  go_wp2
  all_goals
   go_ret
   refine ⟨?_,((Below.refl _ _).alloc (Nat.le_refl _) _).alloc (by simp) _⟩
   first
    | exact check_yes (by simp_all [rightDay];try omega)
    | exact check_no (by simp_all [rightDay];try omega)
 ·clear w1 d1 w3 d3 w4 d4 f1 f3 f4
  have hlt:=block_lt_of_cell w2
  go_enter Tryz.func60,Tryz.ntmps60
  go_wp2
  all_goals
   go_ret
   refine ⟨?_,((Below.refl _ _).alloc (Nat.le_refl _) _).alloc (by simp) _⟩
   first
    | exact check_yes (by simp_all [rightDay];try omega)
    | exact check_no (by simp_all [rightDay];try omega)
 ·clear w1 d1 w2 d2 w4 d4 f1 f2 f4
  have hlt:=block_lt_of_cell w3
  go_enter Tryz.func60,Tryz.ntmps60
  go_wp2
  all_goals
   go_ret
   refine ⟨?_,((Below.refl _ _).alloc (Nat.le_refl _) _).alloc (by simp) _⟩
   first
    | exact check_yes (by simp_all [rightDay];try omega)
    | exact check_no (by simp_all [rightDay];try omega)
 ·clear w1 d1 w2 d2 w3 d3 f1 f2 f3
  have hlt:=block_lt_of_cell w4
  go_enter Tryz.func60,Tryz.ntmps60
  go_wp2
  all_goals
   go_ret
   refine ⟨?_,((Below.refl _ _).alloc (Nat.le_refl _) _).alloc (by simp) _⟩
   first
    | exact check_yes (by simp_all [rightDay];try omega)
    | exact check_no (by simp_all [rightDay];try omega)
theorem lindexByte_any (s:ByteArray) (c:Int) (w:World) :
 Calls Tryz.prog 123 #[.string s,.int .u8 c] w fun e w'=>e=.returned (.int .i64 (Lib.indexByte s.data.toList c.toNat.toUInt8))∧w=w':=by
 have hr:=hid (Lib.run_indexByteString (P:=Tryz.prog) s c w)
 go_enter Tryz.func123,Tryz.ntmps123
 go_wp2
 rw [run_callFunc_extern Tryz.func143 (by kernel_rfl) (by kernel_rfl) (by kernel_rfl) (e:=Extern.BytealgIndexByte.indexByte) (by kernel_rfl),hr.out];simp only [Result.andThen];rw [Oper.upon_value]
 go_wp2
 go_ret
 exact ⟨rfl,rfl⟩
theorem indexByte_any (s:ByteArray) (c:Int) (w:World) :
 Calls Tryz.prog 216 #[.string s,.int .u8 c] w fun e w'=>e=.returned (.int .i64 (Lib.indexByte s.data.toList c.toNat.toUInt8))∧w=w':=by
 go_enter Tryz.func216,Tryz.ntmps216;go_wp2_with (go_at_call 123;refine (lindexByte_any _ _ _).mono ?_;rintro e w' ⟨rfl,rfl⟩)
 go_ret
 exact ⟨rfl,rfl⟩
def signIdx (r:Int):Int:=if r=60 then 0 else if r=62 then 1 else -1
theorem idx_two {r:Int} (h:0≤r∧r<128):Lib.indexByte [60,62] r.toNat.toUInt8=signIdx r:=by
 have e:∀b:Nat,b<256→(((UInt8.ofNat b)==r.toNat.toUInt8)=true↔r=b):=fun b hb=>by
  rw [beq_iff_eq,←UInt8.toNat_inj,UInt8.toNat_ofNat',Nat.toUInt8,UInt8.toNat_ofNat']
  omega
 have e1:=e 60 (by decide);have e2:=e 62 (by decide);unfold signIdx
 show (if (UInt8.ofNat 60==r.toNat.toUInt8)=true then (0:Int) else if ((if (UInt8.ofNat 62==r.toNat.toUInt8)=true then (0:Int) else if ((-1:Int) == -1)=true then -1 else -1+1) == -1)=true then -1 else (if (UInt8.ofNat 62==r.toNat.toUInt8)=true then (0:Int) else if ((-1:Int) == -1)=true then -1 else -1+1)+1)=_
 by_cases h1:r=60
 ·rw [if_pos (e1.2 h1),if_pos h1]
 ·rw [if_neg (fun k=>h1 (e1.1 k)),if_neg h1]
  by_cases h2:r=62
  ·rw [if_pos (e2.2 h2),if_pos h2];rfl
  ·rw [if_neg (fun k=>h2 (e2.1 k)),if_neg h2];rfl
theorem rune_ascii (r:Int) (w:World) (h:0≤r∧r<128) :
 Calls Tryz.prog 203 #[.string ⟨#[60,62]⟩,.int .i32 r] w fun e w'=>e=.returned (.int .i64 (signIdx r))∧w=w':=by
 have HI:=hid (idx_two h);have hw:IntKind.u8.wrap r=r:=by rw [IntKind.wrap_u8];omega
 go_enter Tryz.func203,Tryz.ntmps203;go_wp2_with fail
 refine (indexByte_any _ _ _).mono ?_;rintro e w1 ⟨rfl,rfl⟩;go_wp2_with fail
 go_ret
 exact ⟨by rw [←HI.out];rfl,rfl⟩
theorem rune_error (w:World) :
 Calls Tryz.prog 203 #[.string ⟨#[60,62]⟩,.int .i32 65533] w fun e w'=>e=.returned (.int .i64 (-1))∧Below w.heap.size w w':=by
 have n0:=fun (W:World) (ty:TypeId)=>run_next_any (P:=Tryz.prog) W ⟨#[60,62]⟩ 0 ty (by decide)
 have n1:=fun (W:World) (ty:TypeId)=>run_next_any (P:=Tryz.prog) W ⟨#[60,62]⟩ 1 ty (by decide)
 have n2:=fun (W:World) (ty:TypeId)=>run_next_end (P:=Tryz.prog) W ⟨#[60,62]⟩ 2 ty (by decide)
 have d0:Utf8.decode ⟨#[60,62]⟩ 0=(60,1):=by decide +kernel
 have d1:Utf8.decode ⟨#[60,62]⟩ 1=(62,1):=by decide +kernel
 simp only [d0,d1] at n0 n1
 go_enter Tryz.func203,Tryz.ntmps203;go_wp2_with fail
 refine wp_loop_rounds 3 ?_;rw [rounds_succ]
 go_wp2
 rw [rounds_succ]
 go_wp2
 rw [rounds_succ]
 go_wp2
 go_ret
 exact ⟨rfl,(Below.refl _ w).alloc (Nat.le_refl _) (.stringIter _ 2)⟩
theorem quiet_left {P:Program} {f:FuncId} {args:Array Value} {w:World} {n:Nat} {v:Value}
 (h:Calls P f args (w.drewN n) fun e w'=>e=.returned v∧w.drewN n=w'):Calls P f args (w.drewN n) fun e w''=>e=.returned v∧∃m,w''=w.drewN m :=
 h.mono fun _ _ ⟨he,hm⟩=>⟨he,n,hm.symm⟩
theorem quiet_add_left {P:Program} {f:FuncId} {args:Array Value} {w:World} {a n:Nat} {v:Value}
 (h:Calls P f args (w.drewN (a+n)) fun e w'=>e=.returned v∧w.drewN (a+n)=w') :
 Calls P f args (w.drewN (a+n)) fun e w''=>e=.returned v∧∃m,w''=w.drewN (a+m) :=
 h.mono fun _ _ ⟨he,hm⟩=>⟨he,n,hm.symm⟩
theorem bytes2 {E:ByteArray} (h:E.size=2):∃a b,E=⟨#[a,b]⟩:=by
 obtain ⟨⟨l⟩⟩:=E
 match l,h with
 | [a,b],_=>exact ⟨a,b,rfl⟩
theorem rune_high (r:Int) (w:World) (h:128≤r∧r≤2147483647) (hne:r≠65533) :
 Calls Tryz.prog 203 #[.string ⟨#[60,62]⟩,.int .i32 r] w fun e w'=>e=.returned (.int .i64 (-1))∧Below w.heap.size w w':=by
 have hb:(r==65533)=false:=beq_eq_false_iff_ne.2 hne
 by_cases h1:1114111<r
 ·go_enter Tryz.func203,Tryz.ntmps203
  go_wp2
  go_ret
  exact ⟨rfl,Below.refl _ _⟩
 by_cases h2:55296≤r∧r≤57343
 ·obtain ⟨h2a,h2b⟩:=h2
  go_enter Tryz.func203,Tryz.ntmps203
  go_wp2
  go_ret
  exact ⟨rfl,Below.refl _ _⟩
 have hv:Utf8.valid r=true:=by simp [Utf8.valid];omega
 obtain ⟨E,hE,e1,e2,e3⟩:∃E,Utf8.encode r=E∧2≤E.size∧E.size≤4∧∀h:E.size-1<E.size,128≤(E[E.size-1]'h).toNat:=⟨_,rfl,encode_facts r hv h.1⟩;have hl:=e3 (by omega);clear e3 hv
 by_cases h5:E.size=2
 ·obtain ⟨a,b,rfl⟩:=bytes2 h5
  have hb1:((62:Int) != (b.toNat:Int))=true:=by
   have:128≤b.toNat:=hl;rw [bne_iff_ne];omega
  clear hl e1 e2 h5;have g1:∀h,((⟨#[60,62]⟩:ByteArray)[1]'h).toNat=62:=fun _=>rfl
  have g2:∀h,((⟨#[a,b]⟩:ByteArray)[1]'h).toNat=b.toNat:=fun _=>rfl
  by_cases h3:r<55296
  all_goals
   go_enter Tryz.func203,Tryz.ntmps203
   go_wp2
   go_step3
   go_wp2
   refine wp_loop_rounds 1 ?_;rw [rounds_succ]
   go_wp2
   go_step3
   go_wp2
   go_quiet (fail)
   go_wp2
   go_quiet ((go_at_call 216;first|exact quiet_add_left (indexByte_any _ _ _)|exact quiet_left (indexByte_any _ _ _)))
   go_wp2
   rw [Exit.noGoto_ret]
   go_wp2
   rw [Exit.noGoto_ret];go_ret
   exact ⟨rfl,Go.below_drewN (Below.refl _ _) _⟩
 ·have h6:(2:Int)≤(E.size:Int)-1:=by omega
  clear hl
  by_cases h3:r<55296
  all_goals
   go_enter Tryz.func203,Tryz.ntmps203
   go_wp2
   go_step3
   go_wp2
   refine wp_loop_rounds 1 ?_;rw [rounds_succ]
   go_wp2
   rw [Exit.noGoto_ret];go_ret
   exact ⟨rfl,Below.refl _ _⟩
open Go.RowKit Go.Shelf
attribute [local go_sem] Oper.semAt_some
def Words (n₀:Nat) (W:World) (sv:Value) (ws:List (List UInt8)):Prop :=
 ∃b cap,sv=.slice (some ⟨b,0,none⟩) ws.length cap∧b<n₀∧∀j l,ws[j]? = some l→W.cell? ⟨b,j,none⟩=some (.string ⟨l.toArray⟩)
theorem Words.below {n₀:Nat} {A B:World} {sv:Value} {ws:List (List UInt8)} (h:Words n₀ A sv ws) (hb:Below n₀ A B):Words n₀ B sv ws:=by
 obtain ⟨b,cap,e,hlt,hc⟩:=h;exact ⟨b,cap,e,hlt,fun j l hl=>(hb.cell (p:=⟨b,j,none⟩) hlt).trans (hc j l hl)⟩
def hits (s l:List UInt8):Bool := !s.isEmpty&&Lib.hasPrefix l s
def pairs (ws:List (List UInt8)) (k:Nat):List (Nat × List UInt8):=(List.range k).map fun j=>(j,ws[j]?.getD [])
def begTo (s:List UInt8) (ws:List (List UInt8)) (k:Nat):List (Nat × List UInt8):=(pairs ws k).filter fun p=>hits s p.2
theorem begTo_hit {s:List UInt8} {ws:List (List UInt8)} {k:Nat} (h:hits s (ws[k]?.getD [])=true):begTo s ws (k+1)=begTo s ws k++[(k,ws[k]?.getD [])]:=by
 simp [begTo,pairs,List.range_succ,List.filter_append,h]
theorem begTo_miss {s:List UInt8} {ws:List (List UInt8)} {k:Nat} (h:hits s (ws[k]?.getD [])=false):begTo s ws (k+1)=begTo s ws k:=by
 simp [begTo,pairs,List.range_succ,List.filter_append,h]
theorem begTo_len (s:List UInt8) (ws:List (List UInt8)) (k:Nat):(begTo s ws k).length≤k:=by
 have:=List.length_filter_le (fun p:Nat × List UInt8=>hits s p.2) (pairs ws k)
 simpa [begTo,pairs] using this
def KpF (n₀ Bs:Nat) (A B:World):Prop:=Below n₀ A B∧∀v,A.cell? ⟨Bs,0,none⟩=some v→B.cell? ⟨Bs,0,none⟩=some v
theorem KpF.trans {n₀ Bs:Nat} {A B C:World} (h:KpF n₀ Bs A B) (k:KpF n₀ Bs B C):KpF n₀ Bs A C:=⟨h.1.trans k.1,fun v hv=>k.2 v (h.2 v hv)⟩
theorem beginning1_in (n:Nat) (hn:3≤n) (l Bl Bs n₀ b cap:Nat) (ws:List (List UInt8)) (s:ByteArray) (hlen:ws.length≤100) (hb:b<n₀) (J Jx:List (Nat × List UInt8)→World→Prop)
 (hY:∀pre x W,J pre W→pre.length<ws.length→YieldAt Fence.wide (n-1) Tryz.prog l #[.int .i64 (x.1:Int),.string ⟨x.2.toArray⟩] W fun e W' =>
  (e=.returned (.bool true)∧J (pre++[x]) W'∧KpF n₀ Bs W W')∨(e=.returned (.bool false)∧Jx (pre++[x]) W'))
 (W:World) (hBl:W.cell? ⟨Bl,0,none⟩=some (.slice (some ⟨b,0,none⟩) ws.length cap)) (hBs:W.cell? ⟨Bs,0,none⟩=some (.string s)) (hc:∀j l,ws[j]? = some l→W.cell? ⟨b,j,none⟩=some (.string ⟨l.toArray⟩)) (h0:J [] W) :
 CallsIn Fence.wide n Tryz.prog 195 #[.func (.yield l) #[] #[],.pointer (some ⟨Bl,0,none⟩),.pointer (some ⟨Bs,0,none⟩)] W fun e W'=>(∃v,e=.returned v) ∧
  ((∃ys,ys=begTo s.data.toList ws ws.length∧J ys W')∨(∃pre,(∃k,k≤ws.length∧pre=begTo s.data.toList ws k)∧Jx pre W')):=by
 have hwf:∀f,Fence.wide.fn f:=fun _=>trivial
 have hwd:Fence.wide.depth.isSome=false:=rfl;refine callsIn_of_wp Tryz.func195 rfl trivial ?_ rfl;simp only [Tryz.ntmps195,List.size_toArray,List.length_cons,List.length_nil,Nat.reduceAdd,Nat.reduceSub,Array.replicate_succ,Array.replicate_zero,List.push_toArray,List.append_toArray,List.nil_append,List.cons_append]
 gi_wp2
 gi_loopw [8] (fun i wr=>∃k:Nat,k≤ws.length∧i=.int .i64 k∧J (begTo s.data.toList ws k) wr∧KpF n₀ Bs W wr)
  (fun i _=>ws.length-(intOf i).toNat)
 case atStart=>exact ⟨0,Nat.zero_le _,rfl,h0,Below.refl _ _,fun _ h=>h⟩
 case round =>
  obtain ⟨k,hk,rfl,hJs,hnx⟩:=hrel;have hBs':=hnx.2 _ hBs
  by_cases hlt:k<ws.length
  ·have hd:decide ((k:Int)<(ws.length:Int))=true:=by simp;omega
   have hck:wr.cell? ⟨b,k,none⟩=some (.string ⟨(ws[k]?.getD []).toArray⟩):=(hnx.1.cell (p:=⟨b,k,none⟩) hb).trans (hc k _ (by simp [hlt]));have HJ:=hid hJs;have HHit:=hid (@begTo_hit s.data.toList ws k);have HMiss:=hid (@begTo_miss s.data.toList ws k);obtain ⟨fn,tmps,assign,body,hy,hR⟩:=hY _ (k,ws[k]?.getD []) wr hJs (by have:=begTo_len s.data.toList ws k;omega);have HY:=hid hR;have HH:=hid (show hits s.data.toList (ws[k]?.getD [])=(!s.data.toList.isEmpty&&Lib.hasPrefix (ws[k]?.getD []) s.data.toList) from rfl);clear hc hBl hBs hY hJs hR;generalize ws[k]?.getD []=lk at *
   cases he:s.data.toList.isEmpty
   ·have he1:s.toList.isEmpty=false:=by rw [Lib.toList_data];exact he
    cases hpx:Lib.hasPrefix lk s.data.toList
    ·have hm:=HMiss.out (by rw [HH.out,hpx];simp)
     gi_wp2_with fail
     refine (callsIn_wide.2 (prefix_any _ _ _)).mono ?_;rintro e w' ⟨rfl,rfl⟩;rw [hpx]
     gi_wp2
     go_roundw
     case rel=>exact ⟨k+1,by omega,by go_num,by rw [hm];exact HJ.out,hnx⟩
     case measure=>simp [intOf];omega
    ·have hm:=hid (HHit.out (by rw [HH.out,hpx,he];rfl))
     gi_wp2_with fail
     refine (callsIn_wide.2 (prefix_any _ _ _)).mono ?_;rintro e w' ⟨rfl,rfl⟩;rw [hpx]
     gi_wp2
     refine HY.out.mono ?_;rintro e W3 (⟨rfl,hJ3,hk3⟩|⟨rfl,hJx3⟩)
     ·gi_wp2
      go_roundw
      case rel=>exact ⟨k+1,by omega,by go_num,by rw [hm.out];exact hJ3,hnx.trans hk3⟩
      case measure=>simp [intOf];omega
     ·gi_wp2
      refine bodyPost_ret (results_none rfl _ _ _) rfl ?_;exact ⟨⟨_,rfl⟩,.inr ⟨_,⟨k+1,by omega,hm.out.symm⟩,hJx3⟩⟩
   ·have he1:s.toList.isEmpty=true:=by rw [Lib.toList_data];exact he
    have hm:=HMiss.out (by rw [HH.out,he];rfl)
    gi_wp2
    go_roundw
    case rel=>exact ⟨k+1,by omega,by go_num,by rw [hm];exact HJ.out,hnx⟩
    case measure=>simp [intOf];omega
  ·obtain rfl:k=ws.length:=by omega
   have hd:decide ((ws.length:Int)<(ws.length:Int))=false:=by simp
   gi_wp2
   go_end0
   exact ⟨⟨_,rfl⟩,.inl ⟨_,rfl,hJs⟩⟩
theorem get_list (s:ByteArray) (j:Nat) (h:j<s.size):s.data.toList[j]? = some (s.get! j):=by
 have e:s.get! j=s[j]'h:=get_at s j h;rw [e];exact Lib.data_getElem? s j h
theorem dec_wide (s:ByteArray) (pos:Nat) (h:pos<s.size) (ha:128≤(s.get! pos).toNat) :
 pos+(Utf8.decode s pos).2≤s.size∧∀j,j<(Utf8.decode s pos).2→128≤(s.get! (pos+j)).toNat:=by
 have hn:¬(s.get! (pos+0)).toNat<128:=by rw [Nat.add_zero];omega
 have h0:∀j,j<1→128≤(s.get! (pos+j)).toNat:=fun j hj=>by
  obtain rfl:j=0:=by omega
  rw [Nat.add_zero];exact ha
 simp only [Utf8.decode,hn,if_false]
 repeat' split
 all_goals first
  | exact ⟨by omega,h0⟩
  | (rename_i hc _;simp only [Bool.and_eq_true,decide_eq_true_eq,beq_iff_eq] at hc
     refine ⟨by omega,fun j hj=>?_⟩
     rcases (by omega:j=0∨j=1∨j=2∨j=3) with rfl|rfl|rfl|rfl
     all_goals (simp only at hj;first|omega|exact h0 0 (by decide)))
def signs:List UInt8:=[60,62]
theorem not_sign {b:UInt8} (h:128≤b.toNat):signs.contains b=false:=by
 have:∀c:UInt8,128≤c.toNat→signs.contains c=false:=by
  intro c hc
  by_cases h1:c=60
  ·subst h1;exact absurd hc (by decide)
  by_cases h2:c=62
  ·subst h2;exact absurd hc (by decide)
  simp [signs,h1,h2]
 exact this b h
theorem noAny_wide {s:ByteArray} {pos n:Nat} (hn:Lib.NoAny s.data.toList signs pos) (hs:pos+n≤s.size) (h:∀j,j<n→128≤(s.get! (pos+j)).toNat):Lib.NoAny s.data.toList signs (pos+n):=fun j b hj hb=>by
 by_cases e:j<pos
 ·exact hn j b e hb
 ·have g:=get_list s j (by omega)
  rw [hb] at g;have:=h (j-pos) (by omega);rw [show pos+(j-pos)=j by omega] at this
  cases g
  exact not_sign this
theorem sign_of {b:UInt8} : signs.contains b=decide (0≤signIdx b.toNat):=by
 unfold signIdx
 by_cases h1:b=60
 ·subst h1;decide
 by_cases h2:b=62
 ·subst h2;decide
 have e1:¬((b.toNat:Int)=60):=fun e=>h1 (UInt8.toNat_inj.1 (by show b.toNat=60;omega))
 have e2:¬((b.toNat:Int)=62):=fun e=>h2 (UInt8.toNat_inj.1 (by show b.toNat=62;omega))
 rw [if_neg e1,if_neg e2]
 simp [signs,h1,h2]
theorem useSet_any (n:Int) (w:World) :
 Calls Tryz.prog 204 #[.int .i64 n] w fun e w'=>e=.returned (.bool (decide (8<n)))∧w=w':=by
 go_enter Tryz.func204,Tryz.ntmps204
 go_wp2
 go_ret
 exact ⟨rfl,rfl⟩
theorem width_one (s:ByteArray) (pos:Nat):1≤(Utf8.decode s pos).2:=by
 simp only [Utf8.decode]
 repeat' split
 all_goals (show (1:Nat)≤_;simp)
theorem dec_step (s:ByteArray) (pos r n:Nat) (hp:pos<s.size) (hD:Utf8.decode s pos=(r,n)) (hn:Lib.NoAny s.data.toList signs pos) :
 (0≤signIdx r→Lib.indexAny s.data.toList signs=pos)∧(¬0≤signIdx r→Lib.NoAny s.data.toList signs (pos+n)∧pos+n≤s.size):=by
 by_cases h:(s.get! pos).toNat<128
 ·have e:s[pos]'hp=s.get! pos:=(get_at s pos hp).symm
  have hd:=decode_ascii s pos hp (by rw [e];exact h);rw [hD,e] at hd;obtain ⟨rfl,rfl⟩:=Prod.mk.inj hd;have g:=get_list s pos hp
  constructor
  ·intro hs
   exact Lib.indexAny_hit hn g (by rw [sign_of];exact decide_eq_true hs)
  ·intro hs
   exact ⟨hn.succ g (by rw [sign_of];exact decide_eq_false hs),hp⟩
 ·have hi:128≤(s.get! pos).toNat:=by omega
  have e:s[pos]'hp=s.get! pos:=(get_at s pos hp).symm;have h1:=(decode_high s pos hp (by rw [e];exact hi)).1;have h2:=dec_wide s pos hp hi;rw [hD] at h1 h2;simp only at h1 h2
  have hs:signIdx r = -1:=by
   unfold signIdx;rw [if_neg (by omega),if_neg (by omega)]
  rw [hs];exact ⟨fun k=>absurd k (by decide),fun _=>⟨noAny_wide hn h2.1 h2.2,h2.1⟩⟩
theorem rune_any (r:Nat) (w:World) (h:r≤2147483647) :
 Calls Tryz.prog 203 #[.string ⟨#[60,62]⟩,.int .i32 (r:Int)] w fun e w'=>e=.returned (.int .i64 (signIdx r))∧Below w.heap.size w w':=by
 by_cases h1:r<128
 ·exact (rune_ascii r w (by omega)).mono fun e w' ⟨he,hw⟩=>⟨he,hw ▸ Below.refl _ _⟩
 have hs:signIdx r = -1:=by
  unfold signIdx;rw [if_neg (by omega),if_neg (by omega)]
 rw [hs]
 by_cases h2:r=65533
 ·subst h2;exact rune_error w
 ·exact rune_high r w (by omega) (by omega)
theorem indexAny_short (s:ByteArray) (w:World) (h8:s.size≤8) :
 Calls Tryz.prog 188 #[.string s,.string ⟨#[60,62]⟩] w fun e w'=>e=.returned (.int .i64 (Lib.indexAny s.data.toList signs))∧Below w.heap.size w w':=by
 have h8f:decide ((8:Int)<(s.size:Int))=false:=decide_eq_false (by omega)
 go_enter Tryz.func188,Tryz.ntmps188;go_wp2_with fail
 refine (useSet_any _ _).mono ?_;rintro e w' ⟨rfl,rfl⟩;rw [h8f];go_wp2_with fail
 go_loopw [] (fun wr=>∃pos:Nat,wr.heap[w.heap.size]? = some (.stringIter s pos)∧Below w.heap.size w wr∧pos≤s.size∧Aside (Lib.NoAny s.data.toList signs pos)) (fun wr=>s.size-wr.iterPos w.heap.size)
 case atStart=>exact ⟨0,World.iter_heap w s 0,(Below.refl _ _).alloc (Nat.le_refl _) _,Nat.zero_le _,Lib.NoAny.zero _ _⟩
 case round =>
  obtain ⟨pos,hit,hbw,hle,HN⟩:=hrel;have hpos0:=hid (iterPos_of hit)
  by_cases hp:pos<s.size
  ·have hnx:∀ty,(Instr.next (.pointer (some ⟨w.heap.size,0,none⟩)) true ty).run Tryz.prog wr=_:=fun ty=>Lib.run_next_any_at wr w.heap.size s pos ty hit hp
   obtain ⟨r,n,hD⟩:∃r n,Utf8.decode s pos=(r,n):=⟨_,_,rfl⟩;have hr:r≤2147483647:=by have:=decode_le s pos;rw [hD] at this;exact this
   have hn1:1≤n:=by have:=width_one s pos;rw [hD] at this;exact this
   rw [hD] at hnx;have hit2:=Lib.iterAt_heap wr w.heap.size s pos (pos+n) hit;have hbw2:=Lib.below_iterAt hbw (k:=w.heap.size) (Nat.le_refl _) s (pos+n);obtain ⟨W1,hW1⟩:∃W1,W1=wr.iterAt w.heap.size s (pos+n):=⟨_,rfl⟩;simp only [←hW1] at hnx hit2 hbw2;have HK:Aside (W1.heap[w.heap.size]? = some (.stringIter s (pos+n))∧Below w.heap.size w W1∧Utf8.decode s pos=(r,n)):=⟨hit2,hbw2,hD⟩;clear hW1 hit hbw hit2 hbw2 hD
   by_cases hg:0≤signIdx r
   ·have hgd:decide (0≤signIdx r)=true:=decide_eq_true hg
    go_wp2_with fail
    refine (rune_any _ _ hr).mono ?_;rintro e w2 ⟨rfl,hb2⟩;go_wp2_with fail
    go_ret
    exact ⟨by rw [(dec_step s pos r n hp HK.out.2.2 HN.out).1 hg];rfl,HK.out.2.1.trans (hb2.mono HK.out.2.1.size)⟩
   ·have hgd:decide (0≤signIdx r)=false:=decide_eq_false hg
    go_wp2_with fail
    refine (rune_any _ _ hr).mono ?_;rintro e w2 ⟨rfl,hb2⟩;go_wp2_with fail
    have hlt:w.heap.size<W1.heap.size:=lt_of_block HK.out.1;have hit3:w2.heap[w.heap.size]? = some (.stringIter s (pos+n)):=(hb2.block _ hlt).trans HK.out.1;obtain ⟨d1,d2⟩:=(dec_step s pos r n hp HK.out.2.2 HN.out).2 (by omega);go_roundw
    case rel=>exact ⟨pos+n,hit3,HK.out.2.1.trans (hb2.mono HK.out.2.1.size),d2,d1⟩
    case measure=>rw [iterPos_of hit3,hpos0.out];omega
  ·have hnx:∀ty,(Instr.next (.pointer (some ⟨w.heap.size,0,none⟩)) true ty).run Tryz.prog wr=_:=fun ty=>Lib.run_next_end_at wr w.heap.size s pos ty hit hp
   obtain rfl:pos=s.size:=by omega
   have e:Lib.indexAny s.data.toList signs = -1:=Lib.indexAny_none (by rw [←Lib.size_eq];exact HN.out);have E:=hid e;clear e;go_wp2_with fail
   go_ret
   exact ⟨by rw [E.out];rfl,hbw⟩
theorem indexAny_any (s:ByteArray) (w:World) (hs:s.size<4294967281) :
 Calls Tryz.prog 188 #[.string s,.string ⟨#[60,62]⟩] w fun e w'=>e=.returned (.int .i64 (Lib.indexAny s.data.toList signs))∧Below w.heap.size w w':=by
 by_cases h8:s.size≤8
 ·exact indexAny_short s w h8
 ·refine (Any.strings_IndexAny_long Tryz.lays153 (fun w=>by kernel_rfl) (by kernel_rfl) s ⟨#[60,62]⟩ w (by decide) (by omega) hs (by decide) (ascii_of_all (by decide))).mono fun e w' ⟨h1,h2⟩=>⟨h1,?_⟩
  rw [h2];exact ((Below.refl _ _).alloc (Nat.le_refl _) _).alloc (by simp) _
attribute [local go_sem] Oper.semAt_some
theorem beginning_any (sv:Value) (b:Addr) (m c:Nat) (hsv:sv=.slice (some b) m c) (s:ByteArray) (w:World) :
 Calls Tryz.prog 166 #[sv,.string s] w fun e w'=>e=.returned (.func (.func 195) #[] #[.pointer (some ⟨w.heap.size,0,none⟩),.pointer (some ⟨w.heap.size+1,0,none⟩)]) ∧
  w'=(w.alloc (.cells #[sv] 28)).alloc (.cells #[.string s] 9):=by
 subst hsv
 go_enter Tryz.func166,Tryz.ntmps166
 go_wp2
 go_ret
 exact ⟨rfl,rfl⟩
def findP (ps:List (Nat × List UInt8)) (s:List UInt8):Nat × Bool :=
 match ps.find? (fun p=>p.2==s) with
 | some p=>(p.1,true)
 | none=>((ps.getLast?.map (·.1)).getD 0,ps.length==1)
def CellIs (W:World) (g:Nat) (v:Value):Prop:=W.cell? ⟨g,0,none⟩=some v∧W.frozen? ⟨g,0,none⟩=false
theorem CellIs.kept {W W':World} {g:Nat} {v:Value} {row:Option Nat} (h:CellIs W g v) (hg:W.grownBy W' row) (hr:∀r,row=some r→∃o:Obj,W.heap[r]? = some o∧o.isCells=false):CellIs W' g v :=
 ⟨cell_kept h.1 hg hr,(frozen_kept h.1 hg hr).trans h.2⟩
theorem CellIs.of_blk {W:World} {g:Nat} {t:TypeId} {v:Value} (h:Blk W g t #[v]):CellIs W g v:=⟨h.cell_ (i:=0) rfl,h.frozen 0⟩
theorem CellIs.set_ {W:World} {g:Nat} {v:Value} (h:CellIs W g v) (u:Value):CellIs (W.setCell ⟨g,0,none⟩ u) g u :=
 ⟨World.cell?_setCell_same' _ _ _ (by rw [h.1];rfl),by rw [World.frozen?_setCell];exact h.2⟩
theorem CellIs.far {W:World} {g g':Nat} {v:Value} (h:CellIs W g v) (hne:g'≠g) (u:Value):CellIs (W.setCell ⟨g',0,none⟩ u) g v :=
 ⟨(World.cell?_setCell_other _ _ _ _ (by simp)).trans h.1,by rw [World.frozen?_setCell];exact h.2⟩
theorem kpF_b {n₀ Bs:Nat} {w:World} (hn:n₀≤w.heap.size) (W:World) (l:Nat) (o o':Obj) (hl:w.heap.size≤l) (h:W.heap[l]? = some o) (hc:o.isCells=false) (hw:o.isWalk=false):KpF n₀ Bs W (W.putObj l o') :=
 ⟨belowK_b hn W l o o' hl h hc hw,fun v hv=>cell_kept hv (grownBy_putObj' _ l o') (fun r e=>by cases e;exact ⟨_,h,hc⟩)⟩
def FI (B M:Nat) (w:World) (s:List UInt8) (pre:List (Nat × List UInt8)) (W:World):Prop :=
 (CellIs W B (.string ⟨s.toArray⟩)∧CellIs W (B+1) (.int .i64 0)∧CellIs W (B+1+1) (.bool false)∧CellIs W M (.int .i64 (((pre.getLast?.map (·.1)).getD 0:Nat):Int))∧CellIs W (M+1) (.int .i64 (pre.length:Int)) ∧
  CellIs W (M+1+1+1) (.string ⟨s.toArray⟩)∧∀p ∈ pre,p.2≠s)∧Below w.heap.size w W
def FX (B:Nat) (w:World) (s:List UInt8) (c:Code) (pre:List (Nat × List UInt8)) (W:World):Prop :=
 (c=.ret∧(∃q p,pre=q++[p]∧p.2=s∧(∀x ∈ q,x.2≠s)∧CellIs W (B+1) (.int .i64 (p.1:Int)))∧CellIs W (B+1+1) (.bool true))∧Below w.heap.size w W
theorem CellIs.drew {W:World} {g:Nat} {v:Value} (h:CellIs W g v):CellIs W.drew g v:=h
theorem fi_snoc {B M:Nat} {w W W':World} {s xl:List UInt8} {xi:Nat} {pre:List (Nat × List UInt8)} (h:FI B M w s pre W) (hx:¬xl=s)
 (h1:∀g v,g≠M→g≠M+1→CellIs W g v→CellIs W' g v) (hM:CellIs W' M (.int .i64 (xi:Int))) (hM1:CellIs W' (M+1) (.int .i64 ((pre.length:Int)+1))) (hBM:B+1+1<M) (hb:Below w.heap.size w W') :
 FI B M w s (pre++[(xi,xl)]) W':=by
 obtain ⟨⟨r3,r4,r5,r6,r7,r9,hne⟩,_⟩:=h;refine ⟨⟨h1 _ _ (by omega) (by omega) r3,h1 _ _ (by omega) (by omega) r4,h1 _ _ (by omega) (by omega) r5,by simpa using hM,by simpa using hM1,h1 _ _ (by omega) (by omega) r9,?_⟩,hb⟩;intro p hp
 rcases List.mem_append.1 hp with h|h
 ·exact hne p h
 ·simp at h;subst h;exact hx
theorem begTo_prefix (s:List UInt8) (ws:List (List UInt8)) {k n:Nat} (h:k≤n):begTo s ws k <+: begTo s ws n:=by
 obtain ⟨d,rfl⟩:=Nat.exists_eq_add_of_le h;simp only [begTo,pairs,List.range_add,List.map_append,List.filter_append];exact List.prefix_append _ _
theorem findP_stop {s:List UInt8} {ws:List (List UInt8)} {k:Nat} {q:List (Nat × List UInt8)} {p:Nat × List UInt8} (hk:k≤ws.length) (h:begTo s ws k=q++[p]) (hp:p.2=s) (hq:∀x ∈ q,x.2≠s) :
 findP (begTo s ws ws.length) s=(p.1,true):=by
 obtain ⟨r,hr⟩:=begTo_prefix s ws hk;rw [←hr,h]
 have h1:(q++[p]++r).find? (fun p=>p.2==s)=some p:=by
  rw [List.append_assoc,List.find?_append,List.find?_eq_none.2 (fun x hx=>by simpa using hq x hx)]
  simp [hp]
 simp only [findP,h1]
theorem findP_none {ps:List (Nat × List UInt8)} {s:List UInt8} (h:∀p ∈ ps,p.2≠s):findP ps s=((ps.getLast?.map (·.1)).getD 0,ps.length==1):=by
 have h1:ps.find? (fun p=>p.2==s)=none:=List.find?_eq_none.2 (fun x hx=>by simpa using h x hx);simp only [findP,h1]
theorem beg_stops (n:Nat) (hn:3≤n) (Bl Bs n₀:Nat) (sv:Value) (ws:List (List UInt8)) (s:ByteArray) (hlen:ws.length≤100) (w:World) (hBl:Bl<w.heap.size) (hBs:Bs<w.heap.size) (hn₀:n₀≤w.heap.size)
 (hcl:w.cell? ⟨Bl,0,none⟩=some sv) (hcs:w.cell? ⟨Bs,0,none⟩=some (.string s)) (hW:Words n₀ w sv ws) :
 SeqStopsK Fence.wide n Tryz.prog 195 #[.pointer (some ⟨Bl,0,none⟩),.pointer (some ⟨Bs,0,none⟩)] (fun x:Nat × List UInt8=>#[.int .i64 (x.1:Int),.string ⟨x.2.toArray⟩]) (KpF n₀ Bs)
  (fun ys=>ys=begTo s.data.toList ws ws.length) (fun pre=>∃k,k≤ws.length∧pre=begTo s.data.toList ws k) ws.length w:=fun l J Jx W hb _ _ hY h0=>by
 obtain ⟨b,cap,rfl,hlt,hc⟩:=hW;have hc1:=(hb.cell (p:=⟨Bl,0,none⟩) hBl).trans hcl;have hc2:=(hb.cell (p:=⟨Bs,0,none⟩) hBs).trans hcs;exact beginning1_in n hn l Bl Bs n₀ b cap ws s hlen hlt J Jx hY W hc1 hc2 (fun j l hl=>(hb.cell (p:=⟨b,j,none⟩) (show b<w.heap.size by omega)).trans (hc j l hl)) h0
theorem find_any (sv:Value) (ws:List (List UInt8)) (s:ByteArray) (w:World) (hW:Words w.heap.size w sv ws) (hlen:ws.length≤100) (hs:s.size≤1048576) :
 Calls Tryz.prog 141 #[sv,.string s] w fun e w' =>
  e=.returned (.tuple #[.int .i64 (findP (begTo (smallL s.data.toList) ws ws.length) (smallL s.data.toList)).1,.bool (findP (begTo (smallL s.data.toList) ws ws.length) (smallL s.data.toList)).2])∧Below w.heap.size w w':=by
 have HW:=hid hW;obtain ⟨b,cap,rfl,hlt,hc⟩:=hW;clear hc;have hwf:∀f,Fence.wide.fn f:=fun _=>trivial
 have hwd:Fence.wide.depth.isSome=false:=rfl;refine (callsIn_wide (n:=8)).1 ?_;refine callsIn_of_wp_marks Tryz.func141 rfl trivial ?_ rfl;simp only [Tryz.ntmps141,List.size_toArray,List.length_cons,List.length_nil,Nat.reduceAdd,Nat.reduceSub,Array.replicate_succ,Array.replicate_zero,List.push_toArray,List.append_toArray,List.nil_append,List.cons_append]
 gi_wp2_with fail
 refine (callsIn_wide.2 (small_any _ _ hs)).mono ?_;rintro e w1 ⟨rfl,hb1⟩;have b3:Blk w1 w.heap.size 9 #[.string s]:=((((Blk.new' w _ _ rfl).alloc _).alloc _).below hb1 (by simp;omega));have b4:Blk w1 (w.heap.size+1) 3 #[.int .i64 0]:=(((Blk.new' _ _ _ (by simp)).alloc _).below hb1 (by simp));have b5:Blk w1 (w.heap.size+1+1) 4 #[.bool false]:=((Blk.new' _ _ _ (by simp)).below hb1 (by simp));have hbw1:Below w.heap.size w w1:=((((Below.refl _ w).alloc (Nat.le_refl _) _).alloc (by simp) _).alloc (by simp;omega) _).trans (hb1.mono (by simp;omega));have c3:=b3.cell_ (i:=0) rfl;have f3:=b3.frozen 0
 have c33:(((w1.setCell ⟨w.heap.size,0,none⟩ (.string ⟨(smallL s.data.toList).toArray⟩)).alloc (.cells #[.int .i64 0] 3)).alloc (.cells #[.int .i64 0] 3)).cell? ⟨w.heap.size,0,none⟩=some (.string ⟨(smallL s.data.toList).toArray⟩) :=
  (((b3.set_ 0 _).alloc _).alloc _).cell_ (i:=0) rfl
 have hz:=hb1.size
 simp at hz
 have HB1:=hid hbw1;have HB3:=hid b3;have HB4:=hid b4;have HB5:=hid b5;clear hb1 hbw1 b3 b4 b5
 gi_wp2_with fail
 refine (callsIn_wide.2 (beginning_any _ _ _ _ rfl _ _)).mono ?_;rintro e w2 ⟨rfl,hw2⟩;have q3:Blk w2 w.heap.size 9 #[.string ⟨(smallL s.data.toList).toArray⟩]:=by rw [hw2];exact ((((Blk.set_ HB3.out 0 _).alloc _).alloc _).alloc _).alloc _
 have q4:Blk w2 (w.heap.size+1) 3 #[.int .i64 0]:=by rw [hw2];exact ((((Blk.far HB4.out (by simp) _).alloc _).alloc _).alloc _).alloc _
 have q5:Blk w2 (w.heap.size+1+1) 4 #[.bool false]:=by rw [hw2];exact ((((Blk.far HB5.out (by simp;omega) _).alloc _).alloc _).alloc _).alloc _
 have q6:Blk w2 w1.heap.size 3 #[.int .i64 0]:=by rw [hw2];exact (((Blk.new' _ _ _ (by simp)).alloc _).alloc _).alloc _
 have q7:Blk w2 (w1.heap.size+1) 3 #[.int .i64 0]:=by rw [hw2];exact ((Blk.new' _ _ _ (by simp)).alloc _).alloc _
 have q8:Blk w2 (w1.heap.size+1+1) 28 #[.slice (some ⟨b,0,none⟩) ws.length cap]:=by rw [hw2];exact (Blk.new' _ _ _ (by simp)).alloc _
 have q9:Blk w2 (w1.heap.size+1+1+1) 9 #[.string ⟨(smallL s.data.toList).toArray⟩]:=by rw [hw2];exact (Blk.new' _ _ _ (by simp))
 have hbw2:Below w.heap.size w w2:=by rw [hw2];exact ((((HB1.out.setCell (Nat.le_refl _) _).alloc (by simp;omega) _).alloc (by simp;omega) _).alloc (by simp;omega) _).alloc (by simp;omega) _
 have hz2:w2.heap.size=w1.heap.size+1+1+1+1:=by rw [hw2];simp
 simp only [World.size_alloc,World.size_setCell];have HW2:=hid (Words.below HW.out hbw2);have HI0:=hid (show FI w.heap.size w1.heap.size w (smallL s.data.toList) [] w2 from ⟨⟨CellIs.of_blk q3,CellIs.of_blk q4,CellIs.of_blk q5,CellIs.of_blk q6,CellIs.of_blk q7,CellIs.of_blk q9,by simp⟩,hbw2⟩);have HQ8:=hid (q8.cell_ (i:=0) rfl);have HQ9:=hid (q9.cell_ (i:=0) rfl);have HZ2:=hid hz2;have HBW2:=hid hbw2;clear hw2 q3 q4 q5 q6 q7 q8 q9 hz2 hbw2 c3 f3 c33 HB3 HB4 HB5
 gi_wp2_with fail
 refine wpIn_rangeFunc_ownF rfl (by omega) (gf:=195) (lb:=#[.pointer (some ⟨w1.heap.size+1+1,0,none⟩),.pointer (some ⟨w1.heap.size+1+1+1,0,none⟩)]) rfl trivial (enters_of Tryz.func195 (by kernel_rfl) rfl)
  (beg_stops 7 (by omega) (w1.heap.size+1+1) (w1.heap.size+1+1+1) w.heap.size _ ws ⟨(smallL s.data.toList).toArray⟩ hlen w2 (by rw [HZ2.out];omega) (by rw [HZ2.out];omega) HBW2.out.size HQ8.out HQ9.out HW2.out) (fun h k=>h.trans k) (kpF_b (w:=w2) HBW2.out.size) (Below.refl _ _) (fun _=>rfl)
  (FI w.heap.size w1.heap.size w (smallL s.data.toList)) (FX w.heap.size w (smallL s.data.toList))
  ?hI ?hIx HI0.out
  (fun x => { tmps:=#[.slice (some ⟨b,0,none⟩) ws.length cap,.string s,undef,.pointer (some ⟨w.heap.size,0,none⟩),.pointer (some ⟨w.heap.size+1,0,none⟩),.pointer (some ⟨w.heap.size+1+1,0,none⟩),.pointer (some ⟨w1.heap.size,0,none⟩),.pointer (some ⟨w1.heap.size+1,0,none⟩),.int .i64 (x.1:Int),.string ⟨x.2.toArray⟩,.string s,.string ⟨(smallL s.data.toList).toArray⟩,.slice (some ⟨b,0,none⟩) ws.length cap,.string ⟨(smallL s.data.toList).toArray⟩,.func (.func 195) #[] #[.pointer (some ⟨w1.heap.size+1+1,0,none⟩),.pointer (some ⟨w1.heap.size+1+1+1,0,none⟩)],.int .i64 (x.1:Int),.string ⟨x.2.toArray⟩,undef,undef,undef,undef,undef,undef,undef,undef,undef,undef],defers:=[] }) ?assign ?body ?done ?stop
 case hI=>exact OwnFrom.and (Own.from (fun s A B row hs hg hr=>⟨hs.1.kept hg hr,hs.2.1.kept hg hr,hs.2.2.1.kept hg hr,hs.2.2.2.1.kept hg hr,hs.2.2.2.2.1.kept hg hr,hs.2.2.2.2.2.1.kept hg hr,hs.2.2.2.2.2.2⟩) _) (ownFrom_below (Nat.le_refl _) HBW2.out.size)
 case hIx=>exact fun c=>OwnFrom.and (Own.from (fun s A B row hs hg hr=>⟨hs.1,(let ⟨q,p,e1,e2,e3,e4⟩:=hs.2.1;⟨q,p,e1,e2,e3,e4.kept hg hr⟩),hs.2.2.kept hg hr⟩) _) (ownFrom_below (Nat.le_refl _) HBW2.out.size)
 case assign =>
  intro l x W K hK
  gi_wp2
  exact hK
 case body =>
  rintro l pre ⟨xi,xl⟩ W ⟨⟨r3,r4,r5,r6,r7,r9,hne⟩,hB⟩ hpl;have c3:=r3.1;have c4:=r4.1;have f4:=r4.2;have c5:=r5.1;have f5:=r5.2;have c6:=r6.1;have f6:=r6.2;have c7:=r7.1;have f7:=r7.2;have R:=hid (And.intro r3 (And.intro r4 (And.intro r5 (And.intro r6 (And.intro r7 r9)))));have HNE:=hid hne;clear r3 r4 r5 r6 r7 r9 hne HI0 HQ8 HQ9 HW2
  by_cases hx:xl=smallL s.data.toList
  ·subst hx
   obtain ⟨r3,r4,r5,r6,r7,r9⟩:=R.out
   gi_wp2
   refine ⟨(KeepsOthers.setCell _ _ _).trans (KeepsOthers.setCell _ _ _),⟨rfl,⟨pre,(xi,_),rfl,rfl,HNE.out,(r4.set_ _).far (by omega) _⟩,(r5.far (by omega) _).set_ _⟩,(hB.setCell (by show w.heap.size≤w.heap.size+1;omega) _).setCell (by show w.heap.size≤w.heap.size+1+1;omega) _⟩
  ·have hxb:(xl==smallL s.data.toList)=false:=beq_eq_false_iff_ne.2 hx
   have hpl2:pre.length<100:=by omega
   have mixed:Tryz.prog.follows Departure.mixedOrders=true:=by kernel_rfl
   have hwr:IntKind.i64.wrap ((pre.length:Int)+1)=(pre.length:Int)+1:=IntWalk.i64_in _ (by omega)
   gi_wp2
   gi_region_with_o (fail)
   all_goals
    obtain ⟨r3,r4,r5,r6,r7,r9⟩:=R.out
    have hb1:Below w.heap.size W ((W.setCell ⟨w1.heap.size,0,none⟩ (.int .i64 (xi:Int))).setCell ⟨w1.heap.size+1,0,none⟩ (.int .i64 ((pre.length:Int)+1))).drew :=
     (((Below.refl _ W).setCell (by show w.heap.size≤w1.heap.size;omega) _).setCell (by show w.heap.size≤w1.heap.size+1;omega) _).drew
    have h1:∀g v,g≠w1.heap.size→g≠w1.heap.size+1→CellIs W g v→CellIs ((W.setCell ⟨w1.heap.size,0,none⟩ (.int .i64 (xi:Int))).setCell ⟨w1.heap.size+1,0,none⟩ (.int .i64 ((pre.length:Int)+1))).drew g v :=
     fun g v e1 e2 h=>((h.far (Ne.symm e1) _).far (Ne.symm e2) _).drew
    refine ⟨((KeepsOthers.setCell _ _ _).trans (KeepsOthers.setCell _ _ _)).trans (KeepsOthers.drew _),⟨hb1,fun v hv=>?_⟩,fi_snoc ⟨⟨r3,r4,r5,r6,r7,r9,HNE.out⟩,hB⟩ hx h1 ((r6.set_ _).far (by omega) _).drew ((r7.far (by omega) _).set_ _).drew (by omega) (hB.trans hb1)⟩;exact (World.cell?_setCell_other _ _ _ _ (by simp)).trans ((World.cell?_setCell_other _ _ _ _ (by simp)).trans hv)
 case done =>
  rintro D ys W hD hys ⟨⟨r3,r4,r5,r6,r7,r9,hne⟩,hB⟩ hK;have HYS:=hid hys;clear hys;have c4:=r4.1;have f4:=r4.2;have c5:=r5.1;have f5:=r5.2;have c6:=r6.1;have f6:=r6.2;have c7:=r7.1;have f7:=r7.2;have mixed:Tryz.prog.follows Departure.mixedOrders=true:=by kernel_rfl
  have HNE:=hid hne;have R:=hid (And.intro r4 r5);clear r3 r4 r5 r6 r7 r9 hne HI0 HQ8 HQ9 HW2
  gi_wp2
  gi_region
  all_goals gi_wp2
  all_goals
   obtain ⟨r4,r5⟩:=R.out;have hK':=(((KeepsOthers.setCell W ⟨w.heap.size+1,0,none⟩ (.int .i64 (((ys.getLast?.map (·.1)).getD 0:Nat):Int))).trans (KeepsOthers.setCell _ ⟨w.heap.size+1+1,0,none⟩ (.bool ((ys.length:Int)==1)))).trans (KeepsOthers.drew _)).same D _ hK rfl;refine ⟨by simp,.inl ⟨_,_,rfl,run_takeDeferred hK',?_⟩⟩;have g4:=cell_kept ((r4.set_ (.int .i64 (((ys.getLast?.map (·.1)).getD 0:Nat):Int))).far (g':=w.heap.size+1+1) (by omega) (.bool ((ys.length:Int)==1))).drew.1 (grownBy_putObj' _ D (.deferred none)) (fun r e=>by cases e;exact ⟨_,hK',rfl⟩);have g5:=cell_kept ((r5.far (g':=w.heap.size+1) (by omega) (.int .i64 (((ys.getLast?.map (·.1)).getD 0:Nat):Int))).set_ (.bool ((ys.length:Int)==1))).drew.1 (grownBy_putObj' _ D (.deferred none)) (fun r e=>by cases e;exact ⟨_,hK',rfl⟩);refine ⟨.tuple #[.int .i64 (((ys.getLast?.map (·.1)).getD 0:Nat):Int),.bool ((ys.length:Int)==1)],?_,?_,((hB.setCell (by show w.heap.size≤w.heap.size+1;omega) _).setCell (by show w.heap.size≤w.heap.size+1+1;omega) _).drew.trans (belowK_b (w:=w) (Nat.le_refl _) _ D _ _ (by have:=HBW2.out.size;omega) hK' rfl rfl)⟩
   ·simp [results,Tryz.f141,go_sem,g4,g5]
   ·rw [←HYS.out,findP_none HNE.out]
    rw [show ((ys.length:Int)==1)=(ys.length==1) by rw [Bool.eq_iff_iff];simp;omega]
 case stop =>
  rintro D c pre W hD ⟨k,hk,hbk⟩ ⟨⟨rfl,⟨q,p,hpre,hp,hq,r4⟩,r5⟩,hB⟩ hK;have HF:=hid (show findP (begTo (smallL s.data.toList) ws ws.length) (smallL s.data.toList)=(p.1,true) from findP_stop hk (hbk ▸ hpre) hp hq)
  gi_wp2
  refine ⟨by simp,.inl ⟨_,_,rfl,run_takeDeferred hK,?_⟩⟩;have g4:=cell_kept r4.1 (grownBy_putObj' _ D (.deferred none)) (fun r e=>by cases e;exact ⟨_,hK,rfl⟩);have g5:=cell_kept r5.1 (grownBy_putObj' _ D (.deferred none)) (fun r e=>by cases e;exact ⟨_,hK,rfl⟩);refine ⟨.tuple #[.int .i64 (p.1:Int),.bool true],?_,by rw [HF.out],hB.trans (belowK_b (w:=w) (Nat.le_refl _) W D _ _ (by have:=HBW2.out.size;omega) hK rfl rfl)⟩
  simp [results,Tryz.f141,go_sem,g4,g5]
def wordF (ws:List (List UInt8)) (s:List UInt8):Nat × Bool:=findP (begTo (smallL s) ws ws.length) (smallL s)
def wordR (ws:List (List UInt8)) (f:Int) (s:List UInt8):Int × Int:=if (wordF ws s).2=true then (f+(wordF ws s).1,0) else (0,8)
theorem begTo_mem {s:List UInt8} {ws:List (List UInt8)} {k:Nat} {p:Nat × List UInt8} (h:p ∈ begTo s ws k):p.1<k∧p.2=ws[p.1]?.getD []:=by
 simp only [begTo,pairs,List.mem_filter,List.mem_map,List.mem_range] at h;obtain ⟨⟨j,hj,rfl⟩,_⟩:=h;exact ⟨hj,rfl⟩
theorem findP_lt {ps:List (Nat × List UInt8)} {s:List UInt8} {n:Nat} (h:∀p ∈ ps,p.1<n):(findP ps s).1<n+1:=by
 unfold findP
 split
 ·rename_i p hp
  have:=h p (List.mem_of_find?_eq_some hp);simp only;omega
 ·simp only
  cases hl:ps.getLast? with
  | none=>simp
  | some p =>
   have:=h p (List.mem_of_getLast? hl)
   simp;omega
theorem wordF_lt (ws:List (List UInt8)) (s:List UInt8):(wordF ws s).1<ws.length+1:=findP_lt fun p hp=>(begTo_mem hp).1
theorem numbered_any (sv:Value) (ws:List (List UInt8)) (f:Int) (s:ByteArray) (w:World) (hW:Words w.heap.size w sv ws) (hlen:ws.length≤100) (hs:s.size≤1048576) (hf:0≤f∧f≤100) :
 Calls Tryz.prog 117 #[sv,.int .i64 f,.string s] w fun e w'=>e=.returned (.tuple #[.int .i64 (wordR ws f s.data.toList).1,.int .i64 (wordR ws f s.data.toList).2])∧Below w.heap.size w w':=by
 have HF:=hid (find_any sv ws s w hW hlen hs);have hl:=wordF_lt ws s.data.toList;have HR:=hid (show wordR ws f s.data.toList=if (wordF ws s.data.toList).2=true then (f+(wordF ws s.data.toList).1,0) else (0,8) from rfl);have HD:=hid (show findP (begTo (smallL s.data.toList) ws ws.length) (smallL s.data.toList)=wordF ws s.data.toList from rfl);clear hW;generalize wordF ws s.data.toList=r at *;obtain ⟨i,b⟩:=r;simp only at hl
 go_enter Tryz.func117,Tryz.ntmps117;go_wp2_with fail
 refine HF.out.mono ?_;rintro e w1 ⟨rfl,hb⟩;rw [HD.out]
 cases b
 ·go_wp2_with fail
  go_ret2
  rw [HR.out];exact ⟨rfl,hb⟩
 ·go_wp2_with fail
  go_ret2
  rw [HR.out];exact ⟨rfl,hb⟩
theorem weeks_words {w:World} (h:Weeks w):Words w.heap.size w (.slice (some ⟨3,0,none⟩) 7 7) weekL :=
 ⟨_,7,rfl,block_lt_of_cell (h 0 _ rfl),fun j l hl=>h j l hl⟩
theorem week_any (s:ByteArray) (w:World) (hW:Weeks w) (hs:s.size≤1048576) :
 Calls Tryz.prog 209 #[.string s] w fun e w'=>e=.returned (.tuple #[.int .i64 (wordR weekL 0 s.data.toList).1,.int .i64 (wordR weekL 0 s.data.toList).2])∧Below w.heap.size w w':=by
 have HN:=hid (numbered_any _ weekL 0 s w (weeks_words hW) (by decide) hs (by decide));clear hW
 go_enter Tryz.func209,Tryz.ntmps209;go_wp2_with fail
 refine HN.out.mono ?_;rintro e w1 ⟨rfl,hb⟩;go_wp2_with fail
 go_ret2
 exact ⟨rfl,hb⟩
def weekR (s:List UInt8):Int × Int:=if (wordF weekL s).2=true then ((wordF weekL s).1,0) else (0,8)
theorem weekR_eq (s:List UInt8):wordR weekL 0 s=weekR s:=by simp [wordR,weekR]
theorem dweek_any (s:ByteArray) (w:World) (hW:Weeks w) (hs:s.size≤1048576) :
 Calls Tryz.prog 192 #[.string s] w fun e w'=>e=.returned (.tuple #[.int .i64 (weekR s.data.toList).1,.int .i64 (weekR s.data.toList).2])∧Below w.heap.size w w':=by
 have HN:=hid (week_any s w hW hs);rw [weekR_eq] at HN;have HR:=hid (show weekR s.data.toList=if (wordF weekL s.data.toList).2=true then (((wordF weekL s.data.toList).1:Int),(0:Int)) else (0,8) from rfl);clear hW
 cases hb:(wordF weekL s.data.toList).2
 ·rw [hb,if_neg (by decide)] at HR
  rw [HR.out] at HN ⊢
  go_enter Tryz.func192,Tryz.ntmps192;go_wp2_with fail
  refine HN.out.mono ?_;rintro e w1 ⟨rfl,hb⟩;go_wp2_with fail
  go_ret2
  exact ⟨rfl,hb⟩
 ·rw [hb,if_pos rfl] at HR
  rw [HR.out] at HN ⊢
  go_enter Tryz.func192,Tryz.ntmps192;go_wp2_with fail
  refine HN.out.mono ?_;rintro e w1 ⟨rfl,hb⟩;go_wp2_with fail
  go_ret2
  exact ⟨rfl,hb⟩
structure Folds (w:World):Prop where
 asc:∀r v:Nat,(r,v) ∈ [(108,76),(76,108),(97,65),(65,97),(115,383),(83,115),(116,84),(84,116)]→w.cell? ⟨14,r,none⟩=some (.int .u16 (v:Int))
 orb:∃b o cap,w.cell? ⟨15,0,none⟩=some (.slice (some ⟨b,o,none⟩) 94 cap)∧∀m v:Nat,(m,v) ∈ [(94,966),(46,837),(22,452),(10,197),(16,304),(20,383),(18,305),(21,83)]→w.cell? ⟨b,o+m,none⟩=some (.int .u16 (v:Int))
theorem Folds.below {w w':World} (h:Folds w) (hb:Below w.heap.size w w'):Folds w':=by
 have k:∀ {g i:Nat} {v:Value},w.cell? ⟨g,i,none⟩=some v→w'.cell? ⟨g,i,none⟩=some v:=fun hc=>(hb.cell (block_lt_of_cell hc)).trans hc
 obtain ⟨b,o,cap,h1,h2⟩:=h.orb;exact ⟨fun r v hm=>k (h.asc r v hm),b,o,cap,k h1,fun m v hm=>k (h2 m v hm)⟩
theorem fold_asc (r:Nat) (v:Nat) (hr:r<128) (w:World) (hc:w.cell? ⟨14,r,none⟩=some (.int .u16 (v:Int))) (hv:v<65536) :
 Calls Tryz.prog 208 #[.int .i32 (r:Int)] w fun e w'=>e=.returned (.int .i32 (v:Int))∧w=w':=by
 go_enter Tryz.func208,Tryz.ntmps208;go_wp2_with fail
 go_ret
 exact ⟨rfl,rfl⟩
theorem fold_long (w:World) (hF:Folds w) :
 Calls Tryz.prog 208 #[.int .i32 383] w fun e w'=>e=.returned (.int .i32 83)∧Below w.heap.size w w':=by
 obtain ⟨b,o,cap,h1,h2⟩:=hF.orb;have c94:=h2 94 966 (by decide);have c46:=h2 46 837 (by decide);have c22:=h2 22 452 (by decide);have c10:=h2 10 197 (by decide);have c16:=h2 16 304 (by decide);have c20:=h2 20 383 (by decide);have c18:=h2 18 305 (by decide);have c21:=h2 21 83 (by decide);clear h2 hF
 go_enter Tryz.func208,Tryz.ntmps208;go_wp2_with fail
 refine wp_loop_rounds 8 ?_;rw [rounds_succ];go_wp2_with fail
 iterate 7 (rw [rounds_succ];go_wp2_with fail)
 go_ret
 exact ⟨rfl,Below.refl _ _⟩
def lastL:List UInt8:=[108,97,115,116]
theorem wp_scope_forward {P:Program} {Q:Exit→Act→World→Prop} {a:Act} {w:World} {c rest:Code} (l:Nat) (hf:findLabel c l=some rest)
 (first:c.wp P (Exit.jump l (fun a' w'=>rest.wp P (Exit.noGoto Q) a' w') Q) a w):(Code.scope c).wp P Q a w:=by
 refine wp_scope_jumps l (fun a' w'=>rest.wp P (Exit.noGoto Q) a' w') (fun _ _=>0) hf first ?_
 intro a' w' h b k cs;obtain ⟨e,a₁,w₁,hq,harr⟩:=h b k cs;refine ⟨e,a₁,w₁,?_,harr⟩
 cases e with
 | goto l=>exact hq.elim
 | _=>exact hq
theorem jump_ret {l:Nat} {J:Act→World→Prop} {Q:Exit→Act→World→Prop} {a:Act} {w:World} : Exit.jump l J Q .ret a w=Q .ret a w:=rfl
theorem rune_of_ascii (s:ByteArray) (y:Nat) (h:0<s.size) (hy:(s[0]'h).toNat=y) (h128:y<128) (w:World) :
 Calls Tryz.prog 59 #[.string s] w fun e w'=>e=.returned (.tuple #[.int .i32 (y:Int),.int .i64 1])∧w=w':=by
 have he:s.toList.isEmpty=false:=by
  rw [Lib.toList_data]
  cases hh:s.data.toList with
  | nil=>have:=Lib.size_eq s;rw [hh,List.length_nil] at this;omega
  | cons _ _=>rfl
 go_enter Tryz.func59,Tryz.ntmps59;go_wp2_with fail
 go_ret2
 exact ⟨rfl,rfl⟩
theorem dec_long {c d:UInt8} {n:Nat} (h:Utf8.decode ⟨#[c,d]⟩ 0=(383,n)):n=2:=by
 have hc:∀k,2≤k→¬(0+k<(⟨#[c,d]⟩:ByteArray).size):=fun k hk=>by show ¬0+k<2;omega
 simp only [Utf8.decode] at h
 repeat' split at h
 all_goals simp_all [Utf8.runeError]
 all_goals omega
def inv (a b c d:UInt8) (i:Nat):Prop:=Lib.equalFold ([a,b,c,d].drop i) (lastL.drop i)=Lib.equalFold [a,b,c,d] lastL
theorem fold_any (a b c d:UInt8) (w:World) (hF:Folds w) :
 Calls Tryz.prog 191 #[.string ⟨#[a,b,c,d]⟩,.string ⟨#[108,97,115,116]⟩] w fun e w'=>e=.returned (.bool (Lib.equalFold [a,b,c,d] lastL))∧Below w.heap.size w w':=by
 go_enter Tryz.func191,Tryz.ntmps191;go_wp2_with fail
 refine wp_scope_forward 0 rfl ?_;go_wp2_with fail
 go_loopg [5] 4 (fun g s5 wx=>w=wx∧∃i:Nat,i+g=4∧s5=.int .i64 i∧Aside (inv a b c d i))
 case atStart=>exact ⟨rfl,0,by omega,rfl,rfl⟩
 case round =>
  obtain ⟨rfl,i,hig,rfl,HI⟩:=hrel
  rcases (by omega:i=4∨i=0∨i=1∨i=2∨i=3) with rfl|rfl|rfl|rfl|rfl
  ·go_wp2_with fail
   rw [jump_ret];go_ret
   exact ⟨by rw [←HI.out];rfl,Below.refl _ _⟩
  ·by_cases hx:128≤a.toNat
   ·have hor:bits .or .u8 (a.toNat:Int) 108=((a.toNat ||| 108:Nat):Int):=u8_or_nat _ 108 (by have:=a.toNat_lt;omega) (by decide)
    have hor128:(128:Int)≤((a.toNat ||| 108:Nat):Int):=by have:=Nat.left_le_or (n:=a.toNat) (m:=108);omega
    have g0:∀h,((⟨#[a,b,c,d]⟩:ByteArray)[0]'h).toNat=a.toNat:=fun _=>rfl
    have g1:∀h,((⟨#[108,97,115,116]⟩:ByteArray)[0]'h).toNat=108:=fun _=>rfl
    have x1:(⟨#[a,b,c,d]⟩:ByteArray).extract 0 4=⟨#[a,b,c,d]⟩:=rfl;have x2:(⟨#[108,97,115,116]⟩:ByteArray).extract 0 4=⟨#[108,97,115,116]⟩:=rfl;have n0:=fun (W:World) (ty:TypeId)=>run_next_any (P:=Tryz.prog) W ⟨#[a,b,c,d]⟩ 0 ty (by show 0<4;decide)
    obtain ⟨r,n,hD⟩:∃r n,Utf8.decode ⟨#[a,b,c,d]⟩ 0=(r,n):=⟨_,_,rfl⟩;have hr:=decode_high ⟨#[a,b,c,d]⟩ 0 (by show 0<4;decide) hx;have hr2:=decode_le ⟨#[a,b,c,d]⟩ 0;rw [hD] at hr hr2;simp only [hD] at n0;simp only at hr hr2;have hrn:((108:Int)==(r:Int))=false:=beq_eq_false_iff_ne.2 (by omega)
    have hE:Aside (Lib.equalFold [a,b,c,d] lastL=false):=by
     show _=_
     rw [←HI.out]
     exact Lib.equalFold_no _ _ _ _ (decide_eq_false (by
      show ¬(a.toNat=108∨(65≤a.toNat∧a.toNat≤90∧108=a.toNat+32)∨(65≤108∧108≤90∧a.toNat=108+32))
      omega))
    have X:=hid (And.intro x1 (And.intro x2 hD));clear x1 x2 hD;go_wp2_with fail
    go_step3
    refine ⟨rfl,?_⟩;go_wp2_with fail
    rw [X.out.1,X.out.2.1];have hB':Below w.heap.size w (w.iter ⟨#[a,b,c,d]⟩ n):=(Below.refl _ _).alloc (Nat.le_refl _) _;have hF':Folds (w.iter ⟨#[a,b,c,d]⟩ n):=hF.below hB';refine wp_loop_rounds 1 ?_;rw [rounds_succ];go_wp2_with fail
    refine (rune_of_ascii _ 108 (by decide) rfl (by decide) _).mono ?_;rintro e w' ⟨rfl,rfl⟩;go_wp2_with fail
    refine (fold_asc 108 76 (by decide) _ (hF'.asc _ _ (by decide)) (by decide)).mono ?_;rintro e w' ⟨rfl,rfl⟩;go_wp2_with fail
    refine wp_loop_rounds 2 ?_;rw [rounds_succ];go_wp2_with fail
    refine (fold_asc 76 108 (by decide) _ (hF'.asc _ _ (by decide)) (by decide)).mono ?_;rintro e w' ⟨rfl,rfl⟩;go_wp2_with fail
    rw [rounds_succ];go_wp2_with fail
    rw [Exit.noGoto_ret];go_ret
    exact ⟨by rw [hE.out];rfl,hB'⟩
   have g1:∀h,((⟨#[108,97,115,116]⟩:ByteArray)[0]'h).toNat=108:=fun _=>rfl
   obtain ⟨g,rfl⟩:∃g,gk=g+1:=⟨gk-1,by omega⟩
   by_cases h1:a=108
   ·subst h1
    have g0:∀h,((⟨#[108,b,c,d]⟩:ByteArray)[0]'h).toNat=108:=fun _=>rfl
    have hor:bits .or .u8 108 108=108:=by decide
    go_wp2_with fail
    go_roundg g
    case measure=>omega
    case rel=>exact ⟨rfl,1,by omega,rfl,(Lib.equalFold_yes _ _ _ _ (by decide)).symm.trans HI.out⟩
   by_cases h2:a=76
   ·subst h2
    have g0:∀h,((⟨#[76,b,c,d]⟩:ByteArray)[0]'h).toNat=76:=fun _=>rfl
    have hor:bits .or .u8 76 108=108:=by decide
    go_wp2_with fail
    go_roundg g
    case measure=>omega
    case rel=>exact ⟨rfl,1,by omega,rfl,(Lib.equalFold_yes _ _ _ _ (by decide)).symm.trans HI.out⟩
   have e1:a.toNat≠108:=fun e=>h1 (UInt8.toNat_inj.1 e)
   have e2:a.toNat≠76:=fun e=>h2 (UInt8.toNat_inj.1 e)
   have hE:Aside (Lib.equalFold [a,b,c,d] lastL=false):=by
    show _=_
    rw [←HI.out]
    exact Lib.equalFold_no _ _ _ _ (decide_eq_false (by
     show ¬(a.toNat=108∨(65≤a.toNat∧a.toNat≤90∧108=a.toNat+32)∨(65≤108∧108≤90∧a.toNat=108+32))
     omega))
   have hor:bits .or .u8 (a.toNat:Int) 108=((a.toNat ||| 108:Nat):Int):=u8_or_nat _ 108 (by have:=a.toNat_lt;omega) (by decide);have hor128:¬(128:Int)≤((a.toNat ||| 108:Nat):Int):=by have:=Nat.or_lt_two_pow (n:=7) (x:=a.toNat) (y:=108) (by omega) (by decide);omega
   have g0:∀h,((⟨#[a,b,c,d]⟩:ByteArray)[0]'h).toNat=a.toNat:=fun _=>rfl
   have e3:((108:Int)==(a.toNat:Int))=false:=beq_eq_false_iff_ne.2 (by omega);clear h1 h2;go_wp2_with fail
   all_goals (try simp only [beq_eq_false_iff_ne,ne_eq] at *)
   all_goals first
    | (exfalso;omega)
    | (rw [jump_ret]
       go_ret
       exact ⟨by rw [hE.out];rfl,Below.refl _ _⟩)
  ·by_cases hx:128≤b.toNat
   ·have hor:bits .or .u8 (b.toNat:Int) 97=((b.toNat ||| 97:Nat):Int):=u8_or_nat _ 97 (by have:=b.toNat_lt;omega) (by decide)
    have hor128:(128:Int)≤((b.toNat ||| 97:Nat):Int):=by have:=Nat.left_le_or (n:=b.toNat) (m:=97);omega
    have g0:∀h,((⟨#[a,b,c,d]⟩:ByteArray)[1]'h).toNat=b.toNat:=fun _=>rfl
    have g1:∀h,((⟨#[108,97,115,116]⟩:ByteArray)[1]'h).toNat=97:=fun _=>rfl
    have x1:(⟨#[a,b,c,d]⟩:ByteArray).extract 1 4=⟨#[b,c,d]⟩:=rfl;have x2:(⟨#[108,97,115,116]⟩:ByteArray).extract 1 4=⟨#[97,115,116]⟩:=rfl;have n0:=fun (W:World) (ty:TypeId)=>run_next_any (P:=Tryz.prog) W ⟨#[b,c,d]⟩ 0 ty (by show 0<3;decide)
    obtain ⟨r,n,hD⟩:∃r n,Utf8.decode ⟨#[b,c,d]⟩ 0=(r,n):=⟨_,_,rfl⟩;have hr:=decode_high ⟨#[b,c,d]⟩ 0 (by show 0<3;decide) hx;have hr2:=decode_le ⟨#[b,c,d]⟩ 0;rw [hD] at hr hr2;simp only [hD] at n0;simp only at hr hr2;have hrn:((97:Int)==(r:Int))=false:=beq_eq_false_iff_ne.2 (by omega)
    have hE:Aside (Lib.equalFold [a,b,c,d] lastL=false):=by
     show _=_
     rw [←HI.out]
     exact Lib.equalFold_no _ _ _ _ (decide_eq_false (by
      show ¬(b.toNat=97∨(65≤b.toNat∧b.toNat≤90∧97=b.toNat+32)∨(65≤97∧97≤90∧b.toNat=97+32))
      omega))
    have X:=hid (And.intro x1 (And.intro x2 hD));clear x1 x2 hD;go_wp2_with fail
    go_step3
    refine ⟨rfl,?_⟩;go_wp2_with fail
    rw [X.out.1,X.out.2.1];have hB':Below w.heap.size w (w.iter ⟨#[b,c,d]⟩ n):=(Below.refl _ _).alloc (Nat.le_refl _) _;have hF':Folds (w.iter ⟨#[b,c,d]⟩ n):=hF.below hB';refine wp_loop_rounds 1 ?_;rw [rounds_succ];go_wp2_with fail
    refine (rune_of_ascii _ 97 (by decide) rfl (by decide) _).mono ?_;rintro e w' ⟨rfl,rfl⟩;go_wp2_with fail
    refine (fold_asc 97 65 (by decide) _ (hF'.asc _ _ (by decide)) (by decide)).mono ?_;rintro e w' ⟨rfl,rfl⟩;go_wp2_with fail
    refine wp_loop_rounds 2 ?_;rw [rounds_succ];go_wp2_with fail
    refine (fold_asc 65 97 (by decide) _ (hF'.asc _ _ (by decide)) (by decide)).mono ?_;rintro e w' ⟨rfl,rfl⟩;go_wp2_with fail
    rw [rounds_succ];go_wp2_with fail
    rw [Exit.noGoto_ret];go_ret
    exact ⟨by rw [hE.out];rfl,hB'⟩
   have g1:∀h,((⟨#[108,97,115,116]⟩:ByteArray)[1]'h).toNat=97:=fun _=>rfl
   obtain ⟨g,rfl⟩:∃g,gk=g+1:=⟨gk-1,by omega⟩
   by_cases h1:b=97
   ·subst h1
    have g0:∀h,((⟨#[a,97,c,d]⟩:ByteArray)[1]'h).toNat=97:=fun _=>rfl
    have hor:bits .or .u8 97 97=97:=by decide
    go_wp2_with fail
    go_roundg g
    case measure=>omega
    case rel=>exact ⟨rfl,2,by omega,rfl,(Lib.equalFold_yes _ _ _ _ (by decide)).symm.trans HI.out⟩
   by_cases h2:b=65
   ·subst h2
    have g0:∀h,((⟨#[a,65,c,d]⟩:ByteArray)[1]'h).toNat=65:=fun _=>rfl
    have hor:bits .or .u8 65 97=97:=by decide
    go_wp2_with fail
    go_roundg g
    case measure=>omega
    case rel=>exact ⟨rfl,2,by omega,rfl,(Lib.equalFold_yes _ _ _ _ (by decide)).symm.trans HI.out⟩
   have e1:b.toNat≠97:=fun e=>h1 (UInt8.toNat_inj.1 e)
   have e2:b.toNat≠65:=fun e=>h2 (UInt8.toNat_inj.1 e)
   have hE:Aside (Lib.equalFold [a,b,c,d] lastL=false):=by
    show _=_
    rw [←HI.out]
    exact Lib.equalFold_no _ _ _ _ (decide_eq_false (by
     show ¬(b.toNat=97∨(65≤b.toNat∧b.toNat≤90∧97=b.toNat+32)∨(65≤97∧97≤90∧b.toNat=97+32))
     omega))
   have hor:bits .or .u8 (b.toNat:Int) 97=((b.toNat ||| 97:Nat):Int):=u8_or_nat _ 97 (by have:=b.toNat_lt;omega) (by decide);have hor128:¬(128:Int)≤((b.toNat ||| 97:Nat):Int):=by have:=Nat.or_lt_two_pow (n:=7) (x:=b.toNat) (y:=97) (by omega) (by decide);omega
   have g0:∀h,((⟨#[a,b,c,d]⟩:ByteArray)[1]'h).toNat=b.toNat:=fun _=>rfl
   have e3:((97:Int)==(b.toNat:Int))=false:=beq_eq_false_iff_ne.2 (by omega);clear h1 h2;go_wp2_with fail
   all_goals (try simp only [beq_eq_false_iff_ne,ne_eq] at *)
   all_goals first
    | (exfalso;omega)
    | (rw [jump_ret]
       go_ret
       exact ⟨by rw [hE.out];rfl,Below.refl _ _⟩)
  ·by_cases hx:128≤c.toNat
   ·have hor:bits .or .u8 (c.toNat:Int) 115=((c.toNat ||| 115:Nat):Int):=u8_or_nat _ 115 (by have:=c.toNat_lt;omega) (by decide)
    have hor128:(128:Int)≤((c.toNat ||| 115:Nat):Int):=by have:=Nat.left_le_or (n:=c.toNat) (m:=115);omega
    have g0:∀h,((⟨#[a,b,c,d]⟩:ByteArray)[2]'h).toNat=c.toNat:=fun _=>rfl
    have g1:∀h,((⟨#[108,97,115,116]⟩:ByteArray)[2]'h).toNat=115:=fun _=>rfl
    have x1:(⟨#[a,b,c,d]⟩:ByteArray).extract 2 4=⟨#[c,d]⟩:=rfl;have x2:(⟨#[108,97,115,116]⟩:ByteArray).extract 2 4=⟨#[115,116]⟩:=rfl;have n0:=fun (W:World) (ty:TypeId)=>run_next_any (P:=Tryz.prog) W ⟨#[c,d]⟩ 0 ty (by show 0<2;decide)
    obtain ⟨r,n,hD⟩:∃r n,Utf8.decode ⟨#[c,d]⟩ 0=(r,n):=⟨_,_,rfl⟩;have hr:=decode_high ⟨#[c,d]⟩ 0 (by show 0<2;decide) hx;have hr2:=decode_le ⟨#[c,d]⟩ 0;rw [hD] at hr hr2;simp only [hD] at n0;simp only at hr hr2;have hrn:((115:Int)==(r:Int))=false:=beq_eq_false_iff_ne.2 (by omega)
    have hE:Aside (Lib.equalFold [a,b,c,d] lastL=false):=by
     show _=_
     rw [←HI.out]
     exact Lib.equalFold_no _ _ _ _ (decide_eq_false (by
      show ¬(c.toNat=115∨(65≤c.toNat∧c.toNat≤90∧115=c.toNat+32)∨(65≤115∧115≤90∧c.toNat=115+32))
      omega))
    have X:=hid (And.intro x1 (And.intro x2 hD));clear x1 x2 hD;go_wp2_with fail
    go_step3
    refine ⟨rfl,?_⟩;go_wp2_with fail
    rw [X.out.1,X.out.2.1];have hB':Below w.heap.size w (w.iter ⟨#[c,d]⟩ n):=(Below.refl _ _).alloc (Nat.le_refl _) _;have hF':Folds (w.iter ⟨#[c,d]⟩ n):=hF.below hB'
    rcases (by omega:r<383∨r=383∨383<r) with h3|h3|h3
    ·have hq:((383:Int)==(r:Int))=false:=beq_eq_false_iff_ne.2 (by omega)
     refine wp_loop_rounds 1 ?_;rw [rounds_succ];go_wp2_with fail
     refine (rune_of_ascii _ 115 (by decide) rfl (by decide) _).mono ?_;rintro e w' ⟨rfl,rfl⟩;go_wp2_with fail
     refine (fold_asc 115 383 (by decide) _ (hF'.asc _ _ (by decide)) (by decide)).mono ?_;rintro e w' ⟨rfl,rfl⟩;go_wp2_with fail
     refine wp_loop_rounds 1 ?_;rw [rounds_succ];go_wp2_with fail
     rw [Exit.noGoto_ret];go_ret
     exact ⟨by rw [hE.out];rfl,hB'⟩
    ·subst h3
     obtain rfl:n=2:=dec_long X.out.2.2;have n2:=fun (W:World) (ty:TypeId)=>run_next_end (P:=Tryz.prog) W ⟨#[c,d]⟩ 2 ty (by show ¬2<2;decide)
     refine wp_loop_rounds 2 ?_;rw [rounds_succ];go_wp2_with fail
     refine (rune_of_ascii _ 115 (by decide) rfl (by decide) _).mono ?_;rintro e w' ⟨rfl,rfl⟩;go_wp2_with fail
     refine (fold_asc 115 383 (by decide) _ (hF'.asc _ _ (by decide)) (by decide)).mono ?_;rintro e w' ⟨rfl,rfl⟩;go_wp2_with fail
     refine wp_loop_rounds 1 ?_;rw [rounds_succ];go_wp2_with fail
     rw [rounds_succ];go_wp2_with fail
     rw [Exit.noGoto_ret];go_ret
     exact ⟨by rw [hE.out];rfl,hB'⟩
    ·have hq:((115:Int)==(r:Int))=false:=beq_eq_false_iff_ne.2 (by omega)
     refine wp_loop_rounds 1 ?_;rw [rounds_succ];go_wp2_with fail
     refine (rune_of_ascii _ 115 (by decide) rfl (by decide) _).mono ?_;rintro e w' ⟨rfl,rfl⟩;go_wp2_with fail
     refine (fold_asc 115 383 (by decide) _ (hF'.asc _ _ (by decide)) (by decide)).mono ?_;rintro e w' ⟨rfl,rfl⟩;go_wp2_with fail
     refine wp_loop_rounds 3 ?_;rw [rounds_succ];go_wp2_with fail
     refine (fold_long _ hF').mono ?_;rintro e w2 ⟨rfl,hb2⟩;have hF2:Folds w2:=hF'.below hb2;go_wp2_with fail
     rw [rounds_succ];go_wp2_with fail
     refine (fold_asc 83 115 (by decide) _ (hF2.asc _ _ (by decide)) (by decide)).mono ?_;rintro e w' ⟨rfl,rfl⟩;go_wp2_with fail
     rw [rounds_succ];go_wp2_with fail
     rw [Exit.noGoto_ret];go_ret
     exact ⟨by rw [hE.out];rfl,hB'.trans (hb2.mono hB'.size)⟩
   have g1:∀h,((⟨#[108,97,115,116]⟩:ByteArray)[2]'h).toNat=115:=fun _=>rfl
   obtain ⟨g,rfl⟩:∃g,gk=g+1:=⟨gk-1,by omega⟩
   by_cases h1:c=115
   ·subst h1
    have g0:∀h,((⟨#[a,b,115,d]⟩:ByteArray)[2]'h).toNat=115:=fun _=>rfl
    have hor:bits .or .u8 115 115=115:=by decide
    go_wp2_with fail
    go_roundg g
    case measure=>omega
    case rel=>exact ⟨rfl,3,by omega,rfl,(Lib.equalFold_yes _ _ _ _ (by decide)).symm.trans HI.out⟩
   by_cases h2:c=83
   ·subst h2
    have g0:∀h,((⟨#[a,b,83,d]⟩:ByteArray)[2]'h).toNat=83:=fun _=>rfl
    have hor:bits .or .u8 83 115=115:=by decide
    go_wp2_with fail
    go_roundg g
    case measure=>omega
    case rel=>exact ⟨rfl,3,by omega,rfl,(Lib.equalFold_yes _ _ _ _ (by decide)).symm.trans HI.out⟩
   have e1:c.toNat≠115:=fun e=>h1 (UInt8.toNat_inj.1 e)
   have e2:c.toNat≠83:=fun e=>h2 (UInt8.toNat_inj.1 e)
   have hE:Aside (Lib.equalFold [a,b,c,d] lastL=false):=by
    show _=_
    rw [←HI.out]
    exact Lib.equalFold_no _ _ _ _ (decide_eq_false (by
     show ¬(c.toNat=115∨(65≤c.toNat∧c.toNat≤90∧115=c.toNat+32)∨(65≤115∧115≤90∧c.toNat=115+32))
     omega))
   have hor:bits .or .u8 (c.toNat:Int) 115=((c.toNat ||| 115:Nat):Int):=u8_or_nat _ 115 (by have:=c.toNat_lt;omega) (by decide);have hor128:¬(128:Int)≤((c.toNat ||| 115:Nat):Int):=by have:=Nat.or_lt_two_pow (n:=7) (x:=c.toNat) (y:=115) (by omega) (by decide);omega
   have g0:∀h,((⟨#[a,b,c,d]⟩:ByteArray)[2]'h).toNat=c.toNat:=fun _=>rfl
   have e3:((115:Int)==(c.toNat:Int))=false:=beq_eq_false_iff_ne.2 (by omega);clear h1 h2;go_wp2_with fail
   all_goals (try simp only [beq_eq_false_iff_ne,ne_eq] at *)
   all_goals first
    | (exfalso;omega)
    | (rw [jump_ret]
       go_ret
       exact ⟨by rw [hE.out];rfl,Below.refl _ _⟩)
  ·by_cases hx:128≤d.toNat
   ·have hor:bits .or .u8 (d.toNat:Int) 116=((d.toNat ||| 116:Nat):Int):=u8_or_nat _ 116 (by have:=d.toNat_lt;omega) (by decide)
    have hor128:(128:Int)≤((d.toNat ||| 116:Nat):Int):=by have:=Nat.left_le_or (n:=d.toNat) (m:=116);omega
    have g0:∀h,((⟨#[a,b,c,d]⟩:ByteArray)[3]'h).toNat=d.toNat:=fun _=>rfl
    have g1:∀h,((⟨#[108,97,115,116]⟩:ByteArray)[3]'h).toNat=116:=fun _=>rfl
    have x1:(⟨#[a,b,c,d]⟩:ByteArray).extract 3 4=⟨#[d]⟩:=rfl;have x2:(⟨#[108,97,115,116]⟩:ByteArray).extract 3 4=⟨#[116]⟩:=rfl;have n0:=fun (W:World) (ty:TypeId)=>run_next_any (P:=Tryz.prog) W ⟨#[d]⟩ 0 ty (by show 0<1;decide)
    obtain ⟨r,n,hD⟩:∃r n,Utf8.decode ⟨#[d]⟩ 0=(r,n):=⟨_,_,rfl⟩;have hr:=decode_high ⟨#[d]⟩ 0 (by show 0<1;decide) hx;have hr2:=decode_le ⟨#[d]⟩ 0;rw [hD] at hr hr2;simp only [hD] at n0;simp only at hr hr2;have hrn:((116:Int)==(r:Int))=false:=beq_eq_false_iff_ne.2 (by omega)
    have hE:Aside (Lib.equalFold [a,b,c,d] lastL=false):=by
     show _=_
     rw [←HI.out]
     exact Lib.equalFold_no _ _ _ _ (decide_eq_false (by
      show ¬(d.toNat=116∨(65≤d.toNat∧d.toNat≤90∧116=d.toNat+32)∨(65≤116∧116≤90∧d.toNat=116+32))
      omega))
    have X:=hid (And.intro x1 (And.intro x2 hD));clear x1 x2 hD;go_wp2_with fail
    go_step3
    refine ⟨rfl,?_⟩;go_wp2_with fail
    rw [X.out.1,X.out.2.1];have hB':Below w.heap.size w (w.iter ⟨#[d]⟩ n):=(Below.refl _ _).alloc (Nat.le_refl _) _;have hF':Folds (w.iter ⟨#[d]⟩ n):=hF.below hB';refine wp_loop_rounds 1 ?_;rw [rounds_succ];go_wp2_with fail
    refine (rune_of_ascii _ 116 (by decide) rfl (by decide) _).mono ?_;rintro e w' ⟨rfl,rfl⟩;go_wp2_with fail
    refine (fold_asc 116 84 (by decide) _ (hF'.asc _ _ (by decide)) (by decide)).mono ?_;rintro e w' ⟨rfl,rfl⟩;go_wp2_with fail
    refine wp_loop_rounds 2 ?_;rw [rounds_succ];go_wp2_with fail
    refine (fold_asc 84 116 (by decide) _ (hF'.asc _ _ (by decide)) (by decide)).mono ?_;rintro e w' ⟨rfl,rfl⟩;go_wp2_with fail
    rw [rounds_succ];go_wp2_with fail
    rw [Exit.noGoto_ret];go_ret
    exact ⟨by rw [hE.out];rfl,hB'⟩
   have g1:∀h,((⟨#[108,97,115,116]⟩:ByteArray)[3]'h).toNat=116:=fun _=>rfl
   obtain ⟨g,rfl⟩:∃g,gk=g+1:=⟨gk-1,by omega⟩
   by_cases h1:d=116
   ·subst h1
    have g0:∀h,((⟨#[a,b,c,116]⟩:ByteArray)[3]'h).toNat=116:=fun _=>rfl
    have hor:bits .or .u8 116 116=116:=by decide
    go_wp2_with fail
    go_roundg g
    case measure=>omega
    case rel=>exact ⟨rfl,4,by omega,rfl,(Lib.equalFold_yes _ _ _ _ (by decide)).symm.trans HI.out⟩
   by_cases h2:d=84
   ·subst h2
    have g0:∀h,((⟨#[a,b,c,84]⟩:ByteArray)[3]'h).toNat=84:=fun _=>rfl
    have hor:bits .or .u8 84 116=116:=by decide
    go_wp2_with fail
    go_roundg g
    case measure=>omega
    case rel=>exact ⟨rfl,4,by omega,rfl,(Lib.equalFold_yes _ _ _ _ (by decide)).symm.trans HI.out⟩
   have e1:d.toNat≠116:=fun e=>h1 (UInt8.toNat_inj.1 e)
   have e2:d.toNat≠84:=fun e=>h2 (UInt8.toNat_inj.1 e)
   have hE:Aside (Lib.equalFold [a,b,c,d] lastL=false):=by
    show _=_
    rw [←HI.out]
    exact Lib.equalFold_no _ _ _ _ (decide_eq_false (by
     show ¬(d.toNat=116∨(65≤d.toNat∧d.toNat≤90∧116=d.toNat+32)∨(65≤116∧116≤90∧d.toNat=116+32))
     omega))
   have hor:bits .or .u8 (d.toNat:Int) 116=((d.toNat ||| 116:Nat):Int):=u8_or_nat _ 116 (by have:=d.toNat_lt;omega) (by decide);have hor128:¬(128:Int)≤((d.toNat ||| 116:Nat):Int):=by have:=Nat.or_lt_two_pow (n:=7) (x:=d.toNat) (y:=116) (by omega) (by decide);omega
   have g0:∀h,((⟨#[a,b,c,d]⟩:ByteArray)[3]'h).toNat=d.toNat:=fun _=>rfl
   have e3:((116:Int)==(d.toNat:Int))=false:=beq_eq_false_iff_ne.2 (by omega);clear h1 h2;go_wp2_with fail
   all_goals (try simp only [beq_eq_false_iff_ne,ne_eq] at *)
   all_goals first
    | (exfalso;omega)
    | (rw [jump_ret]
       go_ret
       exact ⟨by rw [hE.out];rfl,Below.refl _ _⟩)
def shortL:List UInt8→List UInt8
 | a::b::c::_=>[Lib.upperB a,b,c]
 | l=>l
def weekT (i:Int):List UInt8:=if 0≤i∧i<7 then shortL (weekL.getD i.toNat []) else []
theorem upper_any (s:ByteArray) (w:World) (hs:s.size≤140737488355328) (ha:∀(j:Nat) (b:UInt8),s.data.toList[j]? = some b→b.toNat<128) :
 Calls Tryz.prog 103 #[.string s] w fun e w'=>e=.returned (.string ⟨(Lib.toUpperA s.data.toList).toArray⟩)∧Below w.heap.size w w' :=
 Any.strings_ToUpper_ascii Tryz.lays158 Tryz.Builder_Extra_158 s w hs ha
theorem upper_one (a:UInt8) (ha:a.toNat<128) (g i:Nat) (v:Value) (w:World) (hc:w.cell? ⟨g,i,none⟩=some v) :
 Calls Tryz.prog 103 #[.string ⟨#[a]⟩] w fun e w'=>e=.returned (.string ⟨#[Lib.upperB a]⟩)∧Below w.heap.size w w'∧w'.cell? ⟨g,i,none⟩=some v :=
 (upper_any ⟨#[a]⟩ w (by show 1≤_;decide) (fun j b h=>by
  match j,h with
  | 0,h=>cases h;exact ha
  | j+1,h=>simp at h)).mono fun e w' ⟨h1,h2⟩=>⟨h1,h2,(h2.cell (block_lt_of_cell hc)).trans hc⟩
theorem short_in (g n cap i:Nat) (hi:i<n) (hn:n≤100) (a b c:UInt8) (l:List UInt8) (ha:a.toNat<128) (hl:l.length<100) (w:World) (hc:w.cell? ⟨g,i,none⟩=some (.string ⟨(a::b::c::l).toArray⟩)) :
 Calls Tryz.prog 68 #[.slice (some ⟨g,0,none⟩) n cap,.int .i64 (i:Int)] w fun e w'=>e=.returned (.string ⟨#[Lib.upperB a,b,c]⟩)∧Below w.heap.size w w':=by
 obtain ⟨s,hs⟩:∃s:ByteArray,s=⟨(a::b::c::l).toArray⟩:=⟨_,rfl⟩;have hsz:s.size=l.length+3:=by rw [hs];show (a::b::c::l).length=_;simp
 have h01:s.extract 0 1=⟨#[a]⟩:=by rw [hs];apply ByteArray.ext;simp [ByteArray.data_extract]
 have h13:s.extract 1 3=⟨#[b,c]⟩:=by rw [hs];apply ByteArray.ext;simp [ByteArray.data_extract]
 rw [←hs] at hc;have i0:(0:Int)≤(i:Int):=by omega
 have i7:(i:Int)<(n:Int):=by omega
 have i8:¬((n:Int)≤(i:Int)):=by omega
 have z1:(1:Int)≤(s.size:Int):=by omega
 have z3:(3:Int)≤(s.size:Int):=by omega
 have h63:¬(9223372036854775807<1+(min 3 s.size-1)):=by omega
 have HS:=hid hsz;have H01:=hid h01;have H13:=hid h13;clear hs hsz h01 h13
 go_enter Tryz.func68,Tryz.ntmps68;go_wp2_with fail
 go_region_held3 (fun w'=>w'.cell? ⟨g,i,none⟩=some (.string s)) (go_keep) ((go_at_call 103;rw [H01.out];refine (upper_one a ha g i (.string s) _ (by assumption)).mono ?_;rintro e w' ⟨rfl,hb2,hc2⟩))
 all_goals go_wp2
 all_goals go_ret
 all_goals exact ⟨by rw [H13.out];rfl,(Below.refl w.heap.size w).drew.trans hb2⟩
theorem short_out (g n cap:Nat) (i:Int) (hi:i<0∨(n:Int)≤i) (w:World) :
 Calls Tryz.prog 68 #[.slice (some ⟨g,0,none⟩) n cap,.int .i64 i] w fun e w'=>e=.returned (.string ⟨#[]⟩)∧w=w':=by
 by_cases h0:i<0
 ·clear hi
  go_enter Tryz.func68,Tryz.ntmps68
  go_wp2
  go_ret
  exact ⟨rfl,rfl⟩
 ·have h1:(n:Int)≤i:=by omega
  clear hi
  go_enter Tryz.func68,Tryz.ntmps68
  go_wp2
  go_ret
  exact ⟨rfl,rfl⟩
theorem weekL_at (i:Nat) (hi:i<7):∃a b c l,weekL[i]? = some (a::b::c::l)∧a.toNat<128∧l.length<100∧weekT (i:Int)=[Lib.upperB a,b,c]:=by
 rcases (by omega:i=0∨i=1∨i=2∨i=3∨i=4∨i=5∨i=6) with rfl|rfl|rfl|rfl|rfl|rfl|rfl
 all_goals exact ⟨_,_,_,_,rfl,by decide,by decide,by decide⟩
theorem weekText_any (i:Int) (w:World) (hW:Weeks w) :
 Calls Tryz.prog 61 #[.int .i64 i] w fun e w'=>e=.returned (.string ⟨(weekT i).toArray⟩)∧Below w.heap.size w w':=by
 by_cases hi:0≤i∧i<7
 ·obtain ⟨n,rfl⟩:=Int.eq_ofNat_of_zero_le hi.1
  obtain ⟨a,b,c,l,hl,ha,hn,ht⟩:=weekL_at n (by omega);have HC:=hid (short_in 3 7 7 n (by omega) (by decide) a b c l ha hn w (hW n _ hl));have HT:=hid ht;clear hi hl ht hW
  go_enter Tryz.func61,Tryz.ntmps61;go_wp2_with fail
  refine HC.out.mono ?_;rintro e w1 ⟨rfl,hb⟩;go_wp2_with fail
  go_ret
  exact ⟨by rw [HT.out];rfl,hb⟩
 ·have HC:=hid (short_out 3 7 7 i (by omega) w)
  have HT:=hid (show weekT i=[] from if_neg hi);clear hi hW
  go_enter Tryz.func61,Tryz.ntmps61;go_wp2_with fail
  refine HC.out.mono ?_;rintro e w1 ⟨rfl,rfl⟩;go_wp2_with fail
  go_ret
  exact ⟨by rw [HT.out];rfl,Below.refl _ _⟩
def numR (l:List UInt8):Int × Int :=
 match l with
 | [a]=>if 49≤a.toNat∧a.toNat≤57 then ((a.toNat:Int)-48,0) else (0,5)
 | [a,b]=>if 49≤a.toNat∧a.toNat≤57∧48≤b.toNat∧b.toNat≤57 then (if 10*(a.toNat-48)+(b.toNat-48)≤31 then (10*((a.toNat:Int)-48)+((b.toNat:Int)-48),0) else (0,3)) else (0,5)
 | _=>(0,5)
def digs:List UInt8:=[48,49,50,51,52,53,54,55,56,57]
theorem trim_any (s:ByteArray) (w:World) (hs:s.size<4294967281) :
 Calls Tryz.prog 210 #[.string s,.string ⟨#[48,49,50,51,52,53,54,55,56,57]⟩] w fun e w'=>e=.returned (.string ⟨(Lib.trimS s.data.toList digs).toArray⟩)∧Below w.heap.size w w' :=
 Any.strings_Trim_laid Tryz.lays160 (by kernel_rfl) s ⟨#[48,49,50,51,52,53,54,55,56,57]⟩ w (by omega) (by decide) (ascii_of_all (by decide))
theorem number_out (s:ByteArray) (w:World) (hs:s.size<1∨2<s.size) :
 Calls Tryz.prog 193 #[.string s] w fun e w'=>e=.returned (.tuple #[.int .i64 0,.int .i64 5])∧w=w':=by
 rcases hs with hs|hs
 all_goals
  go_enter Tryz.func193,Tryz.ntmps193;go_wp2_with fail
  go_ret2
  exact ⟨rfl,rfl⟩
theorem dig_iff (a:UInt8):digs.contains a=decide (48≤a.toNat∧a.toNat≤57):=by
 have h:∀n:Fin 256,digs.contains (UInt8.ofNat n.val)=decide (48≤n.val∧n.val≤57):=by decide +kernel
 have:=h ⟨a.toNat,a.toNat_lt⟩
 simpa using this
theorem drop_cons (a:UInt8) (l:List UInt8):List.dropWhile (digs.contains ·) (a::l)=if 48≤a.toNat∧a.toNat≤57 then List.dropWhile (digs.contains ·) l else a::l:=by
 by_cases k:48≤a.toNat∧a.toNat≤57
 ·rw [if_pos k,List.dropWhile_cons,if_pos (by rw [dig_iff];exact decide_eq_true k)]
 ·rw [if_neg k,List.dropWhile_cons,if_neg (by rw [dig_iff,decide_eq_false k];decide)]
theorem trim_one (a:UInt8):Lib.trimS [a] digs=if 48≤a.toNat∧a.toNat≤57 then [] else [a]:=by
 show List.dropWhile (digs.contains ·) (List.dropWhile (digs.contains ·) [a]).reverse=_
 rw [drop_cons]
 by_cases k:48≤a.toNat∧a.toNat≤57
 ·rw [if_pos k,if_pos k];rfl
 ·rw [if_neg k,if_neg k]
  show List.dropWhile (digs.contains ·) [a]=[a]
  rw [drop_cons,if_neg k]
theorem number_one (a:UInt8) (w:World) :
 Calls Tryz.prog 193 #[.string ⟨#[a]⟩] w fun e w'=>e=.returned (.tuple #[.int .i64 (numR [a]).1,.int .i64 (numR [a]).2])∧Below w.heap.size w w':=by
 have g0:∀h,((⟨#[a]⟩:ByteArray)[0]'h).toNat=a.toNat:=fun _=>rfl
 by_cases h0:a.toNat=48
 ·have hb:((a.toNat:Int)==48)=true:=beq_iff_eq.2 (by omega)
  have hN:=hid (show numR [a]=(0,5) by simp only [numR];rw [if_neg (by omega)])
  go_enter Tryz.func193,Tryz.ntmps193;go_wp2_with fail
  go_ret2
  exact ⟨by rw [hN.out];rfl,Below.refl _ _⟩
 ·have hb:((a.toNat:Int)==48)=false:=beq_eq_false_iff_ne.2 (by omega)
  have hT:=trim_any ⟨#[a]⟩ w (by show 1<_;decide);rw [show (⟨#[a]⟩:ByteArray).data.toList=[a] from rfl,trim_one] at hT
  by_cases k:48≤a.toNat∧a.toNat≤57
  ·rw [if_pos k] at hT
   have hN:=hid (show numR [a]=((a.toNat:Int)-48,0) by simp only [numR];rw [if_pos (by omega)]);have hw:IntKind.u8.wrap ((a.toNat:Int)-48)=(a.toNat:Int)-48:=by rw [IntKind.wrap_u8];omega
   go_enter Tryz.func193,Tryz.ntmps193;go_wp2_with fail
   refine hT.mono ?_;rintro e w2 ⟨rfl,hb2⟩;go_wp2_with fail
   go_ret2
   exact ⟨by rw [hN.out];rfl,hb2⟩
  ·rw [if_neg k] at hT
   have hN:=hid (show numR [a]=(0,5) by simp only [numR];rw [if_neg (by omega)])
   go_enter Tryz.func193,Tryz.ntmps193;go_wp2_with fail
   refine hT.mono ?_;rintro e w2 ⟨rfl,hb2⟩;go_wp2_with fail
   go_ret2
   exact ⟨by rw [hN.out];rfl,hb2⟩
theorem trim_two (a b:UInt8):(48≤a.toNat∧a.toNat≤57∧48≤b.toNat∧b.toNat≤57→Lib.trimS [a,b] digs=[])∧(¬(48≤a.toNat∧a.toNat≤57∧48≤b.toNat∧b.toNat≤57)→∃x l,Lib.trimS [a,b] digs=x::l):=by
 have e:Lib.trimS [a,b] digs=List.dropWhile (digs.contains ·) (List.dropWhile (digs.contains ·) [b,a]).reverse:=rfl;rw [e]
 by_cases kb:48≤b.toNat∧b.toNat≤57
 ·rw [drop_cons,if_pos kb,drop_cons]
  by_cases ka:48≤a.toNat∧a.toNat≤57
  ·rw [if_pos ka];exact ⟨fun _=>rfl,fun h=>absurd ⟨ka.1,ka.2,kb.1,kb.2⟩ h⟩
  ·rw [if_neg ka]
   refine ⟨fun h=>absurd ⟨h.1,h.2.1⟩ ka,fun _=>⟨a,[],?_⟩⟩
   show List.dropWhile (digs.contains ·) [a]=[a]
   rw [drop_cons,if_neg ka]
 ·rw [drop_cons,if_neg kb]
  refine ⟨fun h=>absurd ⟨h.2.2.1,h.2.2.2⟩ kb,fun _=>?_⟩
  show ∃x l,List.dropWhile (digs.contains ·) [a,b]=x::l
  rw [drop_cons]
  by_cases ka:48≤a.toNat∧a.toNat≤57
  ·rw [if_pos ka,drop_cons,if_neg kb];exact ⟨_,_,rfl⟩
  ·rw [if_neg ka];exact ⟨_,_,rfl⟩
theorem number_two (a b:UInt8) (w:World) :
 Calls Tryz.prog 193 #[.string ⟨#[a,b]⟩] w fun e w'=>e=.returned (.tuple #[.int .i64 (numR [a,b]).1,.int .i64 (numR [a,b]).2])∧Below w.heap.size w w':=by
 have g0:∀h,((⟨#[a,b]⟩:ByteArray)[0]'h).toNat=a.toNat:=fun _=>rfl
 have g1:∀h,((⟨#[a,b]⟩:ByteArray)[1]'h).toNat=b.toNat:=fun _=>rfl
 by_cases h0:a.toNat=48
 ·have hb:((a.toNat:Int)==48)=true:=beq_iff_eq.2 (by omega)
  have hN:=hid (show numR [a,b]=(0,5) by simp only [numR];rw [if_neg (by omega)])
  go_enter Tryz.func193,Tryz.ntmps193;go_wp2_with fail
  go_ret2
  exact ⟨by rw [hN.out];rfl,Below.refl _ _⟩
 ·have hb:((a.toNat:Int)==48)=false:=beq_eq_false_iff_ne.2 (by omega)
  have hT:=trim_any ⟨#[a,b]⟩ w (by show 2<_;decide);rw [show (⟨#[a,b]⟩:ByteArray).data.toList=[a,b] from rfl] at hT
  by_cases k:48≤a.toNat∧a.toNat≤57∧48≤b.toNat∧b.toNat≤57
  ·rw [(trim_two a b).1 k] at hT
   have hw:IntKind.u8.wrap ((a.toNat:Int)-48)=(a.toNat:Int)-48:=by rw [IntKind.wrap_u8];omega
   have hv:IntKind.u8.wrap ((b.toNat:Int)-48)=(b.toNat:Int)-48:=by rw [IntKind.wrap_u8];omega
   by_cases h31:10*(a.toNat-48)+(b.toNat-48)≤31
   ·have hN:=hid (show numR [a,b]=(10*((a.toNat:Int)-48)+((b.toNat:Int)-48),0) by simp only [numR];rw [if_pos (by omega),if_pos h31])
    have h31i:¬(31<10*((a.toNat:Int)-48)+((b.toNat:Int)-48)):=by omega
    go_enter Tryz.func193,Tryz.ntmps193;go_wp2_with fail
    refine hT.mono ?_;rintro e w2 ⟨rfl,hb2⟩;go_wp2_with fail
    go_ret2
    exact ⟨by rw [hN.out];rfl,hb2⟩
   ·have hN:=hid (show numR [a,b]=(0,3) by simp only [numR];rw [if_pos (by omega),if_neg h31])
    have h31i:31<10*((a.toNat:Int)-48)+((b.toNat:Int)-48):=by omega
    go_enter Tryz.func193,Tryz.ntmps193;go_wp2_with fail
    refine hT.mono ?_;rintro e w2 ⟨rfl,hb2⟩;go_wp2_with fail
    go_ret2
    exact ⟨by rw [hN.out];rfl,hb2⟩
  ·obtain ⟨x,l,hxl⟩:=(trim_two a b).2 k
   rw [hxl] at hT;have hne:(⟨(x::l).toArray⟩:ByteArray).toList.isEmpty=false:=by rw [Lib.toList_data];rfl
   have hN:=hid (show numR [a,b]=(0,5) by simp only [numR];rw [if_neg (by omega)]);clear hxl
   go_enter Tryz.func193,Tryz.ntmps193;go_wp2_with fail
   refine hT.mono ?_;rintro e w2 ⟨rfl,hb2⟩;go_wp2_with fail
   go_ret2
   exact ⟨by rw [hN.out];rfl,hb2⟩
theorem number_any (s:ByteArray) (w:World) :
 Calls Tryz.prog 193 #[.string s] w fun e w'=>e=.returned (.tuple #[.int .i64 (numR s.data.toList).1,.int .i64 (numR s.data.toList).2])∧Below w.heap.size w w':=by
 obtain ⟨⟨l⟩⟩:=s
 match l with
 | []=>exact (number_out _ w (.inl (by decide))).mono fun e w' ⟨h1,h2⟩=>⟨h1,h2 ▸ Below.refl _ _⟩
 | [a]=>exact number_one a w
 | [a,b]=>exact number_two a b w
 | a::b::c::l=>exact (number_out _ w (.inr (by show 2<(a::b::c::l).length;simp))).mono fun e w' ⟨h1,h2⟩=>⟨h1,h2 ▸ Below.refl _ _⟩
def joinR (k:Int) (a b:Int × Int):(Int × Int × Int) × Int :=
 if a.2=0 then (if b.2=0 then ((k,a.1,b.1),0) else ((0,0,0),b.2)) else ((0,0,0),a.2)
def comparedR (s:List UInt8) (i:Nat):(Int × Int × Int) × Int:=joinR (if s[i]? = some 60 then 4 else 3) (weekR (s.take i)) (numR (s.drop (i+2)))
def parseR (s:List UInt8):(Int × Int × Int) × Int :=
 if 0≤Lib.indexAny s signs∧Lib.hasPrefix (s.drop ((Lib.indexAny s signs).toNat+1)) [61]=true then comparedR s (Lib.indexAny s signs).toNat
 else if 4≤s.length∧Lib.equalFold (s.take 4) lastL=true then joinR 2 (weekR (s.drop 4)) (0,0)
 else joinR 1 (0,0) (numR s)
def dayV (d:Int × Int × Int):Value:=.agg #[.int .i64 d.1,.int .i64 d.2.1,.int .i64 d.2.2]
theorem weekR_err (s:List UInt8):(weekR s).2=0∨(weekR s).2=8:=by
 unfold weekR;split<;>simp
theorem numR_err (s:List UInt8):(numR s).2=0∨(numR s).2=5∨(numR s).2=3:=by
 unfold numR
 split
 ·split<;>simp
 ·split
  ·split<;>simp
  ·simp
 ·simp
theorem compared_any (s:ByteArray) (i:Nat) (hi:i+1<s.size) (h61:s.data.toList[i+1]? = some 61) (hs:s.size≤1048576) (w:World) (hW:Weeks w) :
 Calls Tryz.prog 190 #[.string s,.int .i64 (i:Int)] w fun e w'=>e=.returned (.tuple #[dayV (comparedR s.data.toList i).1,.int .i64 (comparedR s.data.toList i).2])∧Below w.heap.size w w':=by
 have i0:(0:Int)≤(i:Int):=by omega
 have i1:(i:Int)<(s.size:Int):=by omega
 have i2:(0:Int)≤(i:Int)+1:=by omega
 have i3:(i:Int)+1<(s.size:Int):=by omega
 have hwr:IntKind.i64.wrap ((i:Int)+1)=(i:Int)+1:=IntWalk.i64_in _ (by omega);have htn:((i:Int)+1).toNat=i+1:=by omega
 have g1:∀h,(s[i+1]'h).toNat=61:=fun h=>by
  have e:=Lib.data_getElem? s (i+1) h;rw [h61] at e;have e2:s[i+1]=61:=(Option.some.inj e).symm;rw [e2];rfl
 have HW:=hid (hW.below (((Below.refl _ w).alloc (Nat.le_refl _) (.cells #[.int .i64 0,.int .i64 0,.int .i64 0] 48)).alloc (by simp) (.cells #[.int .i64 3,.int .i64 0,.int .i64 0] 48)));obtain ⟨c,hc⟩:∃c,s.data.toList[i]? = some c:=⟨_,Lib.data_getElem? s i (by omega)⟩
 have g0:∀h,(s[i]'h).toNat=c.toNat:=fun h=>by
  have e:=Lib.data_getElem? s i h;rw [hc] at e;rw [Option.some.inj e]
 have HR:=hid (show comparedR s.data.toList i=joinR (if c=60 then 4 else 3) (weekR (s.data.toList.take i)) (numR (s.data.toList.drop (i+2))) by rw [comparedR,hc];simp);clear hc HW
 have hB1:∀(nq:Nat) (k4:Int),Below w.heap.size w ((((w.alloc (.cells #[.int .i64 0,.int .i64 0,.int .i64 0] 48)).alloc (.cells #[.int .i64 3,.int .i64 0,.int .i64 0] 48)).drewN nq).setCell ⟨w.heap.size+1,0,none⟩ (.int .i64 k4)):=fun nq k4 =>
  (below_drawn (((Below.refl _ w).alloc (Nat.le_refl _) _).alloc (by simp) _) nq).setCell (by show w.heap.size≤w.heap.size+1;omega) _
 have hB2:∀(nq:Nat),Below w.heap.size w (((w.alloc (.cells #[.int .i64 0,.int .i64 0,.int .i64 0] 48)).alloc (.cells #[.int .i64 3,.int .i64 0,.int .i64 0] 48)).drewN nq):=fun nq =>
  below_drawn (((Below.refl _ w).alloc (Nat.le_refl _) _).alloc (by simp) _) nq
 have HB:=hid (And.intro hB1 hB2);clear hB1 hB2
 by_cases h60:c=60
 ·subst h60
  have g0:∀h,(s[i]'h).toNat=60:=g0
  go_enter Tryz.func190,Tryz.ntmps190;go_wp2_with fail
  go_quiet (fail)
  go_wp2_with fail
  refine (dweek_any _ _ (hW.below (HB.out.1 nq 4)) (size_part s 0 i _ hs)).mono ?_;rintro e w1 ⟨rfl,hb1⟩;have b4:Blk w1 w.heap.size 48 #[.int .i64 0,.int .i64 0,.int .i64 0]:=((((Blk.new' w _ _ rfl).alloc _).drewN _).far (by simp) _).below hb1 (by simp;omega);have b6:Blk w1 (w.heap.size+1) 48 #[.int .i64 4,.int .i64 0,.int .i64 0]:=((((Blk.new' _ _ _ (by simp)).drewN _).set_ 0 _)).below hb1 (by simp);have HBw:=hid ((HB.out.1 nq 4).trans (hb1.mono (HB.out.1 nq 4).size));have hz:w.heap.size+1<w1.heap.size:=b6.lt;obtain ⟨p0,p1,p2,f0,f1,f2⟩:=b6.three;obtain ⟨r0,r1,r2,q0,q1,q2⟩:=b4.three;rw [list_upto];have hwe:=weekR_err (s.data.toList.take i);generalize weekR (s.data.toList.take i)=A at *;obtain ⟨wi,we⟩:=A;have HP:=hid (And.intro b4 b6);clear hb1 hW b4 b6 HB;simp only at hwe
  rcases hwe with rfl|rfl
  ·go_wp2_with fail
   refine (number_any _ _).mono ?_;rintro e w2 ⟨rfl,hb2⟩;have b4:=(HP.out.1.far (p:=⟨w.heap.size+1,1,none⟩) (by simp) (.int .i64 wi)).below hb2 (by simp;omega);have b6:=(HP.out.2.set_ 1 (.int .i64 wi)).below hb2 (by simp;omega);have HBv:=hid ((HBw.out.setCell (p:=⟨w.heap.size+1,1,none⟩) (by show w.heap.size≤w.heap.size+1;omega) (.int .i64 wi)).trans (hb2.mono (by simp;omega)));have hz2:w.heap.size+1<w2.heap.size:=b6.lt;clear hz p0 p1 p2 f0 f1 f2 r0 r1 r2 q0 q1 q2 hb2 HP HBw;obtain ⟨p0,p1,p2,f0,f1,f2⟩:=b6.three;obtain ⟨r0,r1,r2,q0,q1,q2⟩:=b4.three;clear b4 b6;rw [list_from];have hne:=numR_err (s.data.toList.drop (i+2));generalize numR (s.data.toList.drop (i+2))=B at *;obtain ⟨ni,ne⟩:=B;simp only at hne
   rcases hne with rfl|rfl|rfl
   all_goals
    go_wp2_with fail
    refine bodyPost_ret (by simp [results,Tryz.results190,go_sem,r0,r1,r2];rfl) rfl ⟨?_,?_⟩
    ·rw [HR.out];rfl
    ·have hBv:=HBv.out;go_grown
  ·go_wp2_with fail
   refine bodyPost_ret (by simp [results,Tryz.results190,go_sem,r0,r1,r2];rfl) rfl ⟨?_,?_⟩
   ·rw [HR.out];rfl
   ·have hBw:=HBw.out;go_grown
 ·have h60b:((c.toNat:Int)==60)=false:=beq_eq_false_iff_ne.2 (fun e=>h60 (UInt8.toNat_inj.1 (by show c.toNat=60;omega)))
  rw [if_neg h60] at HR
  go_enter Tryz.func190,Tryz.ntmps190;go_wp2_with fail
  go_quiet (fail)
  go_wp2_with fail
  refine (dweek_any _ _ (hW.below (HB.out.2 nq)) (size_part s 0 i _ hs)).mono ?_;rintro e w1 ⟨rfl,hb1⟩;have b4:Blk w1 w.heap.size 48 #[.int .i64 0,.int .i64 0,.int .i64 0]:=((((Blk.new' w _ _ rfl).alloc _).drewN _)).below hb1 (by simp;omega);have b6:Blk w1 (w.heap.size+1) 48 #[.int .i64 3,.int .i64 0,.int .i64 0]:=((((Blk.new' _ _ _ (by simp)).drewN _))).below hb1 (by simp);have HBw:=hid ((HB.out.2 nq).trans (hb1.mono (HB.out.2 nq).size));have hz:w.heap.size+1<w1.heap.size:=b6.lt;obtain ⟨p0,p1,p2,f0,f1,f2⟩:=b6.three;obtain ⟨r0,r1,r2,q0,q1,q2⟩:=b4.three;rw [list_upto];have hwe:=weekR_err (s.data.toList.take i);generalize weekR (s.data.toList.take i)=A at *;obtain ⟨wi,we⟩:=A;have HP:=hid (And.intro b4 b6);clear hb1 hW b4 b6 HB;simp only at hwe
  rcases hwe with rfl|rfl
  ·go_wp2_with fail
   refine (number_any _ _).mono ?_;rintro e w2 ⟨rfl,hb2⟩;have b4:=(HP.out.1.far (p:=⟨w.heap.size+1,1,none⟩) (by simp) (.int .i64 wi)).below hb2 (by simp;omega);have b6:=(HP.out.2.set_ 1 (.int .i64 wi)).below hb2 (by simp;omega);have HBv:=hid ((HBw.out.setCell (p:=⟨w.heap.size+1,1,none⟩) (by show w.heap.size≤w.heap.size+1;omega) (.int .i64 wi)).trans (hb2.mono (by simp;omega)));have hz2:w.heap.size+1<w2.heap.size:=b6.lt;clear hz p0 p1 p2 f0 f1 f2 r0 r1 r2 q0 q1 q2 hb2 HP HBw;obtain ⟨p0,p1,p2,f0,f1,f2⟩:=b6.three;obtain ⟨r0,r1,r2,q0,q1,q2⟩:=b4.three;clear b4 b6;rw [list_from];have hne:=numR_err (s.data.toList.drop (i+2));generalize numR (s.data.toList.drop (i+2))=B at *;obtain ⟨ni,ne⟩:=B;simp only at hne
   rcases hne with rfl|rfl|rfl
   all_goals
    go_wp2_with fail
    refine bodyPost_ret (by simp [results,Tryz.results190,go_sem,r0,r1,r2];rfl) rfl ⟨?_,?_⟩
    ·rw [HR.out];rfl
    ·have hBv:=HBv.out;go_grown
  ·go_wp2_with fail
   refine bodyPost_ret (by simp [results,Tryz.results190,go_sem,r0,r1,r2];rfl) rfl ⟨?_,?_⟩
   ·rw [HR.out];rfl
   ·have hBw:=HBw.out;go_grown
theorem indexAny_lt:∀(s chars:List UInt8),Lib.indexAny s chars<s.length
 | [],_=>by simp [Lib.indexAny]
 | b::l,chars=>by
  have ih:=indexAny_lt l chars;unfold Lib.indexAny
  split
  ·simp
  ·split
   ·simp;omega
   ·simp;omega
theorem pre_one {l:List UInt8} (h:Lib.hasPrefix l [61]=true):l[0]? = some 61:=by
 match l,h with
 | a::l,h =>
  simp [Lib.hasPrefix,List.isPrefixOf] at h
  simp [h]
theorem ext4 (s:ByteArray) (h:4≤s.size):∃a b c d,s.extract 0 4=⟨#[a,b,c,d]⟩∧s.data.toList.take 4=[a,b,c,d]:=by
 obtain ⟨⟨l⟩⟩:=s
 match l,h with
 | a::b::c::d::l,_=>exact ⟨a,b,c,d,by apply ByteArray.ext;simp,by simp⟩
theorem parse_any (s:ByteArray) (hs:s.size≤1048576) (w:World) (hW:Weeks w) (hF:Folds w) :
 Calls Tryz.prog 162 #[.string s] w fun e w'=>e=.returned (.tuple #[dayV (parseR s.data.toList).1,.int .i64 (parseR s.data.toList).2])∧Below w.heap.size w w':=by
 have hlt:=indexAny_lt s.data.toList signs;have hge:=Lib.indexAny_ge signs s.data.toList;rw [size_data] at hlt;have HI:=hid (indexAny_any s (w.alloc (.cells #[.int .i64 0,.int .i64 0,.int .i64 0] 48)) (by omega));have hB0:Below w.heap.size w (w.alloc (.cells #[.int .i64 0,.int .i64 0,.int .i64 0] 48)):=(Below.refl _ w).alloc (Nat.le_refl _) _
 by_cases hA:0≤Lib.indexAny s.data.toList signs∧Lib.hasPrefix (s.data.toList.drop ((Lib.indexAny s.data.toList signs).toNat+1)) [61]=true
 ·have HP:=hid (show parseR s.data.toList=comparedR s.data.toList (Lib.indexAny s.data.toList signs).toNat from if_pos hA)
  obtain ⟨h0,hp⟩:=hA;obtain ⟨i,hi⟩:=Int.eq_ofNat_of_zero_le h0;rw [hi] at HI HP hp hlt;rw [Int.toNat_natCast] at HP hp
  have h61:s.data.toList[i+1]? = some 61:=by
   have:=pre_one hp;rwa [List.getElem?_drop] at this
  have hi1:i+1<s.size:=by
   rw [←size_data];exact (List.getElem?_eq_some_iff.1 h61).1
  have HH:=hid hp;clear hp hi h0 hge
  go_enter Tryz.func162,Tryz.ntmps162;go_wp2_with fail
  refine HI.out.mono ?_;rintro e w1 ⟨rfl,hb1⟩;have b2:Blk w1 w.heap.size 48 #[.int .i64 0,.int .i64 0,.int .i64 0]:=(Blk.new' w _ _ rfl).below hb1 (by simp);have HB1:=hid (hB0.trans (hb1.mono hB0.size));have HB2:=hid b2;clear hb1 b2 hB0 HI;go_wp2_with fail
  refine (prefix_any _ _ _).mono ?_;rintro e w2 ⟨rfl,rfl⟩;rw [list_from,HH.out];go_wp2_with fail
  refine (compared_any s i hi1 h61 hs _ (hW.below HB1.out)).mono ?_;rintro e w2 ⟨rfl,hb2⟩;have b2:=HB2.out.below hb2 HB2.out.lt;obtain ⟨r0,r1,r2,q0,q1,q2⟩:=b2.three;have HBv:=hid (HB1.out.trans (hb2.mono HB1.out.size));generalize comparedR s.data.toList i=R at *;obtain ⟨⟨a,b,c⟩,d⟩:=R;unfold dayV;clear hb2 b2 hW hF HB2 HB1;go_wp2_with fail
  refine bodyPost_ret (by simp [results,Tryz.results162,go_sem,r0,r1,r2];rfl) rfl ⟨by rw [HP.out];rfl,?_⟩;have hBv:=HBv.out
  go_grown
 ·have HP:=hid (show parseR s.data.toList=if 4≤s.data.toList.length∧Lib.equalFold (s.data.toList.take 4) lastL=true then joinR 2 (weekR (s.data.toList.drop 4)) (0,0) else joinR 1 (0,0) (numR s.data.toList) from if_neg hA)
  rw [size_data] at HP
  go_enter Tryz.func162,Tryz.ntmps162;have HA:=hid hA;clear hA;generalize hi:Lib.indexAny s.data.toList signs=i at *;clear hi;go_wp2_with fail
  refine HI.out.mono ?_;rintro e w1 ⟨rfl,hb1⟩;have b2:Blk w1 w.heap.size 48 #[.int .i64 0,.int .i64 0,.int .i64 0]:=(Blk.new' w _ _ rfl).below hb1 (by simp);have HB1:=hid (hB0.trans (hb1.mono hB0.size));have HB2:=hid b2;clear hb1 b2 hB0 HI
  by_cases hi:0≤i
  ·obtain ⟨i,rfl⟩:=Int.eq_ofNat_of_zero_le hi
   rw [Int.toNat_natCast] at HA;have HN:=hid (show Lib.hasPrefix (s.data.toList.drop (i+1)) [61]=false from Bool.eq_false_iff.2 fun h=>HA.out ⟨hi,h⟩);clear HA;go_wp2_with fail
   refine (prefix_any _ _ _).mono ?_;rintro e w2 ⟨rfl,rfl⟩;rw [list_from,HN.out]
   by_cases h4:4≤s.size
   ·obtain ⟨a,b,c,d,he,ht⟩:=ext4 s h4
    rw [ht] at HP;have HE:=hid he;clear he ht;have h4i:(4:Int)≤(s.size:Int):=by omega
    go_wp2_with fail
    rw [HE.out];refine (fold_any a b c d _ (hF.below HB1.out)).mono ?_;rintro e w2 ⟨rfl,hb2⟩;have b2:=HB2.out.below hb2 HB2.out.lt;have HBv:=hid (HB1.out.trans (hb2.mono HB1.out.size));have HBb:=hid b2;clear hb2 b2 hF HB2 HB1
    cases hfo:Lib.equalFold [a,b,c,d] lastL
    ·rw [hfo,if_neg (by simp)] at HP
     clear hfo;go_wp2_with fail
     refine (number_any _ _).mono ?_;rintro e w3 ⟨rfl,hb3⟩;have b2:=HBb.out.below hb3 HBb.out.lt;have HBu:=hid (HBv.out.trans (hb3.mono HBv.out.size));obtain ⟨r0,r1,r2,q0,q1,q2⟩:=b2.three;have hne:=numR_err s.data.toList;generalize numR s.data.toList=B at *;obtain ⟨ni,ne⟩:=B;clear hb3 b2 HBv HBb hW;simp only at hne
     rcases hne with rfl|rfl|rfl
     all_goals
      go_wp2_with fail
      refine bodyPost_ret (by simp [results,Tryz.results162,go_sem,r0,r1,r2];rfl) rfl ⟨?_,?_⟩
      ·rw [HP.out];rfl
      ·have hBu:=HBu.out;go_grown
    ·rw [hfo,if_pos ⟨h4,rfl⟩] at HP
     clear hfo;go_wp2_with fail
     refine (dweek_any _ _ (hW.below HBv.out) (size_part s 4 s.size _ hs)).mono ?_;rintro e w3 ⟨rfl,hb3⟩;have b2:=HBb.out.below hb3 HBb.out.lt;have HBu:=hid (HBv.out.trans (hb3.mono HBv.out.size));obtain ⟨r0,r1,r2,q0,q1,q2⟩:=b2.three;rw [list_from];have hwe:=weekR_err (s.data.toList.drop 4);generalize weekR (s.data.toList.drop 4)=A at *;obtain ⟨wi,we⟩:=A;clear hb3 b2 HBv HBb hW;simp only at hwe
     rcases hwe with rfl|rfl
     all_goals
      go_wp2_with fail
      refine bodyPost_ret (by simp [results,Tryz.results162,go_sem,r0,r1,r2];rfl) rfl ⟨?_,?_⟩
      ·rw [HP.out];rfl
      ·have hBu:=HBu.out;go_grown
   ·rw [if_neg (fun h=>h4 h.1)] at HP
    have h4i:¬(4:Int)≤(s.size:Int):=by omega
    have HBv:=HB1;have HBb:=HB2;clear HB1 HB2;go_wp2_with fail
    refine (number_any _ _).mono ?_;rintro e w3 ⟨rfl,hb3⟩;have b2:=HBb.out.below hb3 HBb.out.lt;have HBu:=hid (HBv.out.trans (hb3.mono HBv.out.size));obtain ⟨r0,r1,r2,q0,q1,q2⟩:=b2.three;have hne:=numR_err s.data.toList;generalize numR s.data.toList=B at *;obtain ⟨ni,ne⟩:=B;clear hb3 b2 HBv HBb hW;simp only at hne
    rcases hne with rfl|rfl|rfl
    all_goals
     go_wp2_with fail
     refine bodyPost_ret (by simp [results,Tryz.results162,go_sem,r0,r1,r2];rfl) rfl ⟨?_,?_⟩
     ·rw [HP.out];rfl
     ·have hBu:=HBu.out;go_grown
  ·clear HA
   by_cases h4:4≤s.size
   ·obtain ⟨a,b,c,d,he,ht⟩:=ext4 s h4
    rw [ht] at HP;have HE:=hid he;clear he ht;have h4i:(4:Int)≤(s.size:Int):=by omega
    go_wp2_with fail
    rw [HE.out];refine (fold_any a b c d _ (hF.below HB1.out)).mono ?_;rintro e w2 ⟨rfl,hb2⟩;have b2:=HB2.out.below hb2 HB2.out.lt;have HBv:=hid (HB1.out.trans (hb2.mono HB1.out.size));have HBb:=hid b2;clear hb2 b2 hF HB2 HB1
    cases hfo:Lib.equalFold [a,b,c,d] lastL
    ·rw [hfo,if_neg (by simp)] at HP
     clear hfo;go_wp2_with fail
     refine (number_any _ _).mono ?_;rintro e w3 ⟨rfl,hb3⟩;have b2:=HBb.out.below hb3 HBb.out.lt;have HBu:=hid (HBv.out.trans (hb3.mono HBv.out.size));obtain ⟨r0,r1,r2,q0,q1,q2⟩:=b2.three;have hne:=numR_err s.data.toList;generalize numR s.data.toList=B at *;obtain ⟨ni,ne⟩:=B;clear hb3 b2 HBv HBb hW;simp only at hne
     rcases hne with rfl|rfl|rfl
     all_goals
      go_wp2_with fail
      refine bodyPost_ret (by simp [results,Tryz.results162,go_sem,r0,r1,r2];rfl) rfl ⟨?_,?_⟩
      ·rw [HP.out];rfl
      ·have hBu:=HBu.out;go_grown
    ·rw [hfo,if_pos ⟨h4,rfl⟩] at HP
     clear hfo;go_wp2_with fail
     refine (dweek_any _ _ (hW.below HBv.out) (size_part s 4 s.size _ hs)).mono ?_;rintro e w3 ⟨rfl,hb3⟩;have b2:=HBb.out.below hb3 HBb.out.lt;have HBu:=hid (HBv.out.trans (hb3.mono HBv.out.size));obtain ⟨r0,r1,r2,q0,q1,q2⟩:=b2.three;rw [list_from];have hwe:=weekR_err (s.data.toList.drop 4);generalize weekR (s.data.toList.drop 4)=A at *;obtain ⟨wi,we⟩:=A;clear hb3 b2 HBv HBb hW;simp only at hwe
     rcases hwe with rfl|rfl
     all_goals
      go_wp2_with fail
      refine bodyPost_ret (by simp [results,Tryz.results162,go_sem,r0,r1,r2];rfl) rfl ⟨?_,?_⟩
      ·rw [HP.out];rfl
      ·have hBu:=HBu.out;go_grown
   ·rw [if_neg (fun h=>h4 h.1)] at HP
    have h4i:¬(4:Int)≤(s.size:Int):=by omega
    have HBv:=HB1;have HBb:=HB2;clear HB1 HB2;go_wp2_with fail
    refine (number_any _ _).mono ?_;rintro e w3 ⟨rfl,hb3⟩;have b2:=HBb.out.below hb3 HBb.out.lt;have HBu:=hid (HBv.out.trans (hb3.mono HBv.out.size));obtain ⟨r0,r1,r2,q0,q1,q2⟩:=b2.three;have hne:=numR_err s.data.toList;generalize numR s.data.toList=B at *;obtain ⟨ni,ne⟩:=B;clear hb3 b2 HBv HBb hW;simp only at hne
    rcases hne with rfl|rfl|rfl
    all_goals
     go_wp2_with fail
     refine bodyPost_ret (by simp [results,Tryz.results162,go_sem,r0,r1,r2];rfl) rfl ⟨?_,?_⟩
     ·rw [HP.out];rfl
     ·have hBu:=HBu.out;go_grown
def dayText (k wk d:Int):List UInt8 :=
 if k=1 then Lib.decDigits d.toNat else if k=2 then [108,97,115,116]++weekT wk else if k=3 then weekT wk++[62,61]++Lib.decDigits d.toNat else weekT wk++[60,61]++Lib.decDigits d.toNat
def printR (k wk d:Int):List UInt8 × Int:=if rightDay k wk d=true then (dayText k wk d,0) else ([],2)
theorem right_bd {k wk d:Int} (h:rightDay k wk d=true):1≤k∧k≤4∧0≤wk∧wk≤6∧0≤d∧d≤31:=by
 simp [rightDay] at h
 omega
theorem digits_len (d:Int) (h0:0≤d) (h1:d≤31):(Lib.decDigits d.toNat).length≤2:=by
 have h:∀n:Fin 32,(Lib.decDigits n.val).length≤2:=by decide +kernel
 exact h ⟨d.toNat,by omega⟩
theorem weekT_len (i:Int):(weekT i).length≤3:=by
 by_cases hi:0≤i∧i<7
 ·obtain ⟨n,rfl⟩:=Int.eq_ofNat_of_zero_le hi.1
  obtain ⟨a,b,c,l,hl,ha,hn,ht⟩:=weekL_at n (by omega);rw [ht];simp
 ·rw [weekT,if_neg hi];simp
theorem itoa_day (d:Int) (w:World) (h0:0≤d) (h1:d<100) :
 Calls Tryz.prog 35 #[.int .i64 d] w fun e w'=>e=.returned (.string ⟨(Lib.decDigits d.toNat).toArray⟩)∧w'=w:=by
 obtain ⟨n,rfl⟩:=Int.eq_ofNat_of_zero_le h0;exact Any.strconv_Itoa_small Tryz.lays171 n (by omega) w
theorem print_any (k wk d:Int) (w:World) (hK:Kinds w) (hW:Weeks w) :
 Calls Tryz.prog 29 #[.agg #[.int .i64 k,.int .i64 wk,.int .i64 d]] w fun e w'=>e=.returned (.tuple #[.string ⟨(printR k wk d).1.toArray⟩,.int .i64 (printR k wk d).2])∧Below w.heap.size w w':=by
 have hB0:Below w.heap.size w (w.alloc (.cells #[.int .i64 k,.int .i64 wk,.int .i64 d] 48)):=(Below.refl _ _).alloc (Nat.le_refl _) _;have HC:=hid (check_any k wk d _ (hK.below hB0));have HW1:=hid (hW.below hB0)
 by_cases hr:rightDay k wk d=true
 ·have HR:=hid (show printR k wk d=(dayText k wk d,0) from if_pos hr)
  have HK:=hid (show checkR k wk d=0 from if_pos hr);obtain ⟨hk1,hk4,hw0,hw6,hd0,hd31⟩:=right_bd hr;clear hr hK hW
  go_enter Tryz.func29,Tryz.ntmps29;go_wp2_with fail
  refine HC.out.mono ?_;rintro e w1 ⟨rfl,hb1⟩;rw [HK.out];have b0:Blk w1 w.heap.size 48 #[.int .i64 k,.int .i64 wk,.int .i64 d]:=(Blk.new' _ _ _ rfl).below hb1 (by simp);have c0:=b0.cell_ (i:=0) rfl;have c1:=b0.cell_ (i:=1) rfl;have c2:=b0.cell_ (i:=2) rfl;have hW1:Weeks w1:=HW1.out.below hb1;have HB1:=hid (hB0.trans (hb1.mono (by simp)));clear b0 hb1 hB0;have hdl:=digits_len d hd0 hd31;have hwl:=weekT_len wk;go_wp2_with fail
  go_region_held3 (fun w'=>w'.cell? ⟨w.heap.size,0,none⟩=some (.int .i64 k)∧w'.cell? ⟨w.heap.size,1,none⟩=some (.int .i64 wk)∧w'.cell? ⟨w.heap.size,2,none⟩=some (.int .i64 d)) (go_keep)
   (first|((go_at_call 35;refine (itoa_day d _ hd0 (by omega)).mono ?_;rintro e w2 ⟨rfl,rfl⟩))|((go_at_call 61;refine (held3 (weekText_any wk _ (by exact hW1)) (by exact c0) (by exact c1) (by exact c2)).mono ?_;rintro e w2 ⟨rfl,hb2,e0,e1,e2⟩)))
  have hB:=hid (HB1.out.trans ((Below.refl _ _).drew.trans hb2 |>.mono HB1.out.size));clear hb2 hW1 c0 c1 c2 e1 e2 HB1 HC HW1;generalize hE1:Lib.decDigits d.toNat=dl at *;generalize hE2:weekT wk=wl at *;have HE1:=hid hE1;have HE2:=hid hE2;clear hE1 hE2
  rcases (by omega:k=1∨k=2∨k=3∨k=4) with rfl|rfl|rfl|rfl
  all_goals
   go_wp2
   go_ret2
   refine ⟨?_,hB.out⟩;rw [HR.out]
   simp [dayText,HE1.out,HE2.out,ba_append]
 ·have HR:=hid (show printR k wk d=([],2) from if_neg hr)
  have HK:=hid (show checkR k wk d=2 from if_neg hr);clear hr hK hW
  go_enter Tryz.func29,Tryz.ntmps29;go_wp2_with fail
  refine HC.out.mono ?_;rintro e w1 ⟨rfl,hb1⟩;rw [HK.out];have HB1:=hid (hB0.trans (hb1.mono (by simp)));clear hb1 hB0;go_wp2_with fail
  go_ret2
  exact ⟨by rw [HR.out];rfl,HB1.out⟩
end Go.Proofs.YtboagmbmmoomiaaGreatDoor
