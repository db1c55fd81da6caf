/-
  Sources as plain data: names of zones, links, shifts, zones, the canonical text.
  strings.SplitSeq at a slash, and name.Zone: what the calls return.
  printer.lines at its five types: what each call returns.
  linkline: the lines of links and shifts: what each call returns.
-/
import Derived.Test.YtboagmbmmoomiaaGreatDoorEraHead
import Derived.Test.YtboagmbmmoomiaaGreatDoorRuleAll
import Derived.Test.YtboagmbmmoomiaaGreatDoorRelAll
import Derived.Test.YtboagmbmmoomiaaGreatDoorOffAll
import Derived.Test.YtboagmbmmoomiaaGreatDoorShelf
import Derived.Test.YtboagmbmmoomiaaGreatDoorDayAll
import Derived.Lib.IndexLaws
import Derived.ArgAppend
import Derived.Test.YtboagmbmmoomiaaGreatDoorShelf2
set_option linter.unusedVariables false
set_option maxRecDepth 100000
set_option maxHeartbeats 4000000
namespace Go.Proofs.YtboagmbmmoomiaaGreatDoor
open Go.Lib (hid)
open Go.RowKit
def zparts:List UInt8→List (List UInt8)
 | []=>[[]]
 | c::t=>if c=47 then []::zparts t else match zparts t with
  | []=>[[c]]
  | p::q=>(c::p)::q
theorem zparts_ne (l:List UInt8):zparts l≠[]:=by
 cases l with
 | nil=>simp [zparts]
 | cons c t =>
  unfold zparts
  split
  ·simp
  ·split<;>simp
theorem zparts_one {a:List UInt8} (h:(47:UInt8) ∉ a):zparts a=[a]:=by
 induction a with
 | nil=>rfl
 | cons c t ih =>
  have h1:c≠47:=fun e=>h (e ▸ List.mem_cons_self ..)
  rw [zparts,if_neg h1,ih (fun m=>h (List.mem_cons_of_mem _ m))]
theorem zparts_app {a b:List UInt8} (h:(47:UInt8) ∉ a):zparts (a++47::b)=a::zparts b:=by
 induction a with
 | nil=>rw [List.nil_append,zparts,if_pos rfl]
 | cons c t ih =>
  have h1:c≠47:=fun e=>h (e ▸ List.mem_cons_self ..)
  rw [List.cons_append,zparts,if_neg h1,ih (fun m=>h (List.mem_cons_of_mem _ m))]
def partB (l:List UInt8):Bool:=ofB 1 14 31 l&&decide (l.getD 0 0≠46)&&decide (l.getD 0 0≠45)
def zoneB (l:List UInt8):Bool:=decide (l.length≤60)&&(zparts l).all partB
theorem zoneB_no {s:List UInt8} {pre:List (List UInt8)} {x:List UInt8} (h:pre++[x] <+: zparts s) (hx:partB x=false):zoneB s=false:=by
 unfold zoneB;rw [Bool.and_eq_false_iff,List.all_eq_false];exact .inr ⟨x,h.subset (by simp),by rw [hx];simp⟩
theorem zoneB_yes {s:List UInt8} (h:∀x ∈ zparts s,partB x=true) (hl:s.length≤60):zoneB s=true:=by
 unfold zoneB;rw [decide_eq_true hl,Bool.true_and,List.all_eq_true];exact h
theorem zoneB_long {s:List UInt8} (hl:¬s.length≤60):zoneB s=false:=by
 unfold zoneB;rw [decide_eq_false hl,Bool.false_and]
def zallB (l:List UInt8):Bool:=(zparts l).all partB
structure RZ (l:List UInt8) (f i:Nat):Prop where
 le:f≤i
 len:i≤l.length
 no:(47:UInt8) ∉ (l.drop f).take (i-f)
 all:zallB l=zallB (l.drop f)
theorem RZ.start (l:List UInt8):RZ l 0 0:=⟨Nat.le_refl _,Nat.zero_le _,by simp,by simp⟩
theorem drop_at {l:List UInt8} {f i:Nat} (hf:f≤i) (hi:i<l.length):l.drop f=(l.drop f).take (i-f)++l[i]::l.drop (i+1):=by
 have h:l.drop f=(l.drop f).take (i-f)++(l.drop f).drop (i-f):=(List.take_append_drop _ _).symm;rw [List.drop_drop,show f+(i-f)=i by omega,List.drop_eq_getElem_cons hi] at h;exact h
theorem RZ.next {l:List UInt8} {f i:Nat} (h:RZ l f i) (hi:i<l.length) (hc:l[i]≠47):RZ l f (i+1):=by
 refine ⟨by have:=h.le;omega,hi,?_,h.all⟩
 have hs:(l.drop f).take (i+1-f)=(l.drop f).take (i-f)++[l[i]]:=by
  have e:i+1-f=(i-f)+1:=by have:=h.le;omega
  rw [e,List.take_add_one,List.getElem?_drop,show f+(i-f)=i by have:=h.le;omega,List.getElem?_eq_getElem hi]
  rfl
 rw [hs,List.mem_append];rintro (h2|h2)
 ·exact h.no h2
 ·exact hc (List.mem_singleton.1 h2).symm
theorem RZ.cut {l:List UInt8} {f i:Nat} (h:RZ l f i) (hi:i<l.length) (hc:l[i]=47):zallB l=(partB ((l.drop f).take (i-f))&&zallB (l.drop (i+1))):=by
 have e:zallB (l.drop f)=zallB ((l.drop f).take (i-f)++47::l.drop (i+1)):=congrArg _ (by rw [←hc];exact drop_at h.le hi);rw [h.all,e];unfold zallB;rw [zparts_app h.no,List.all_cons]
theorem RZ.on {l:List UInt8} {f i:Nat} (h:RZ l f i) (hi:i<l.length) (hc:l[i]=47) (hp:partB ((l.drop f).take (i-f))=true):RZ l (i+1) (i+1) :=
 ⟨Nat.le_refl _,hi,by simp,by rw [h.cut hi hc,hp,Bool.true_and]⟩
theorem RZ.off {l:List UInt8} {f i:Nat} (h:RZ l f i) (hi:i<l.length) (hc:l[i]=47) (hp:partB ((l.drop f).take (i-f))=false):zoneB l=false:=by
 have:=h.cut hi hc;rw [hp,Bool.false_and] at this;unfold zoneB;rw [show (zparts l).all partB=false from this,Bool.and_false]
theorem RZ.done {l:List UInt8} {f:Nat} (h:RZ l f l.length):zallB l=partB (l.drop f):=by
 have hn:=h.no;rw [List.take_of_length_le (by simp)] at hn;rw [h.all];unfold zallB;rw [zparts_one hn]
 simp
structure LinkP where
 target:List UInt8
 name:List UInt8
deriving DecidableEq
structure ZoneP where
 name:List UInt8
 eras:List EraP
structure SourceP where
 rules:List RuleP
 zones:List ZoneP
 links:List LinkP
 shifts:List (List UInt8)
deriving instance DecidableEq for UntilP
deriving instance DecidableEq for EraP
deriving instance DecidableEq for ZoneP
deriving instance DecidableEq for SourceP
def LinkP.cells (l:LinkP):Array Value:=#[.string ⟨l.target.toArray⟩,.string ⟨l.name.toArray⟩]
def linkOk (l:LinkP):Bool:=zoneB l.target&&zoneB l.name
def linkT (l:LinkP):List UInt8:=[76,105,110,107,32]++l.target++[32]++l.name
def linkPrintR (l:LinkP):List UInt8 × Int:=if linkOk l=true then (linkT l,0) else ([],2)
def shiftT (s:List UInt8):List UInt8:=[83,104,105,102,116,32]++s
def shiftPrintR (s:List UInt8):List UInt8 × Int:=if setB s=true then (shiftT s,0) else ([],2)
def endsB:List EraP→Bool
 | []=>true
 | [e] => !e.til.is
 | e::l=>e.til.is&&endsB l
def joinB (sep:List UInt8):List (List UInt8)→List UInt8
 | []=>[]
 | [a]=>a
 | a::l=>a++sep++joinB sep l
def zoneOk (z:ZoneP):Bool:=zoneB z.name && !z.eras.isEmpty&&endsB z.eras&&z.eras.all eraOk
def linesT (l:List (List UInt8)):List UInt8:=(l.map fun x=>x++[10]).flatten
open Go.RowKit Go.Shelf
attribute [local go_sem] Oper.semAt_some
theorem split0_any (s:ByteArray) (w:World) :
 Calls Tryz.prog 111 #[.string s,.string ⟨#[47]⟩,.int .i64 0] w fun e w'=>e=.returned (.func (.func 136) #[] #[.pointer (some ⟨w.heap.size+1,0,none⟩),.pointer (some ⟨w.heap.size,0,none⟩),.pointer (some ⟨w.heap.size+1+1,0,none⟩)]) ∧
  w'=((w.alloc (.cells #[.string s] 9)).alloc (.cells #[.string ⟨#[47]⟩] 9)).alloc (.cells #[.int .i64 0] 3):=by
 go_enter Tryz.func111,Tryz.ntmps111;go_wp2_with fail
 go_ret
 exact ⟨rfl,rfl⟩
theorem splitSeq_any (s:ByteArray) (w:World) :
 Calls Tryz.prog 75 #[.string s,.string ⟨#[47]⟩] w fun e w'=>e=.returned (.func (.func 136) #[] #[.pointer (some ⟨w.heap.size+1,0,none⟩),.pointer (some ⟨w.heap.size,0,none⟩),.pointer (some ⟨w.heap.size+1+1,0,none⟩)]) ∧
  w'=((w.alloc (.cells #[.string s] 9)).alloc (.cells #[.string ⟨#[47]⟩] 9)).alloc (.cells #[.int .i64 0] 3):=by
 go_enter Tryz.func75,Tryz.ntmps75;go_wp2_with fail
 refine (split0_any _ _).mono ?_;rintro e w1 ⟨rfl,rfl⟩;go_wp2_with fail
 go_ret
 exact ⟨rfl,rfl⟩
def boxLen (B:Nat) (W:World):Nat:=match W.cell? ⟨B,0,none⟩ with
 | some (.string s)=>s.size
 | _=>0
theorem boxLen_of {B:Nat} {W:World} {s:ByteArray} (h:CellIs W B (.string s)):boxLen B W=s.size:=by unfold boxLen;rw [h.1]
def KpZ (Bs Bp Bv:Nat) (A B:World):Prop:=(∀v,CellIs A Bs v→CellIs B Bs v)∧(∀v,CellIs A Bp v→CellIs B Bp v)∧(∀v,CellIs A Bv v→CellIs B Bv v)
theorem KpZ.trans {Bs Bp Bv:Nat} {A B C:World} (h:KpZ Bs Bp Bv A B) (k:KpZ Bs Bp Bv B C):KpZ Bs Bp Bv A C:=⟨fun v x=>k.1 v (h.1 v x),fun v x=>k.2.1 v (h.2.1 v x),fun v x=>k.2.2 v (h.2.2 v x)⟩
theorem index_none {r:ByteArray} (h:Lib.indexByte r.data.toList 47 = -1):(47:UInt8) ∉ r.data.toList:=fun hm=>by
 obtain ⟨k,hk,e⟩:=List.mem_iff_getElem.1 hm;exact Lib.indexByte_none h k (by rw [List.getElem?_eq_getElem hk,e])
theorem index_some {r:ByteArray} {k:Nat} (h:Lib.indexByte r.data.toList 47=(k:Int)):k<r.size∧r.data.toList=(r.extract 0 k).data.toList++47::(r.extract (k+1) r.size).data.toList∧(47:UInt8) ∉ (r.extract 0 k).data.toList:=by
 obtain ⟨h1,h2⟩:=Lib.indexByte_some h
 have hk:k<r.data.toList.length:=by
  rcases Nat.lt_or_ge k r.data.toList.length with h|h
  ·exact h
  ·rw [List.getElem?_eq_none h] at h1;cases h1
 have e1:r.data.toList[k]=47:=by rw [List.getElem?_eq_getElem hk] at h1;exact Option.some.inj h1
 refine ⟨by simpa using hk,?_,?_⟩
 ·rw [list_upto,list_from]
  have:=drop_at (l:=r.data.toList) (f:=0) (i:=k) (Nat.zero_le _) hk;rw [e1] at this
  simpa using this
 ·rw [list_upto]
  intro hm;obtain ⟨j,hj,e⟩:=List.mem_iff_getElem.1 hm;rw [List.length_take] at hj;rw [List.getElem_take] at e;exact h2 j (by omega) (by rw [List.getElem?_eq_getElem (by omega),e])
abbrev BA := { x:ByteArray // x.size≤1048576 }
def datas (l:List BA):List (List UInt8):=l.map fun x=>x.1.data.toList
theorem datas_snoc (l:List BA) (x:BA):datas (l++[x])=datas l++[x.1.data.toList]:=by simp [datas]
theorem split1_stops (n:Nat) (hn:3≤n) (Bs Bp Bv:Nat) (s:ByteArray) (w:World) (hsz:s.size≤1048576) (h1:Blk w Bs 9 #[.string s]) (h2:Blk w Bp 9 #[.string ⟨#[47]⟩]) (h3:Blk w Bv 3 #[.int .i64 0]) (ne1:Bp≠Bs) (ne2:Bv≠Bs) :
 StopsBox n Tryz.prog 136 #[.pointer (some ⟨Bp,0,none⟩),.pointer (some ⟨Bs,0,none⟩),.pointer (some ⟨Bv,0,none⟩)] (fun x:BA=>#[.string x.1]) Bs (KpZ Bs Bp Bv) (fun ys=>datas ys=zparts s.data.toList) (fun pre=>datas pre <+: zparts s.data.toList) w:=fun l J Jx W hb hJ hY h0=>by
 have k1:CellIs W Bs (.string s):=CellIs.of_blk (h1.below hb h1.lt);have k2:CellIs W Bp (.string ⟨#[47]⟩):=CellIs.of_blk (h2.below hb h2.lt);have k3:CellIs W Bv (.int .i64 0):=CellIs.of_blk (h3.below hb h3.lt);have c2:=k2.1;clear h1 h2 h3 hb;have hwf:∀f,Fence.wide.fn f:=fun _=>trivial
 have hwd:Fence.wide.depth.isSome=false:=rfl;refine callsIn_of_wp Tryz.func136 rfl trivial ?_ rfl;simp only [Tryz.ntmps136,List.size_toArray,List.length_cons,List.length_nil,Nat.reduceAdd,Nat.reduceSub,Array.replicate_succ,Array.replicate_zero,List.push_toArray,List.append_toArray,List.nil_append,List.cons_append]
 gi_wp2
 gi_loopw [7,8] (fun i f wr=>∃(pre:List BA) (r:ByteArray),r.size≤1048576∧CellIs wr Bs (.string r)∧CellIs wr Bp (.string ⟨#[47]⟩)∧CellIs wr Bv (.int .i64 0)∧Hid (zparts s.data.toList=datas pre++zparts r.data.toList)∧J pre wr)
  (fun _ _ wr=>boxLen Bs wr)
 case atStart=>exact ⟨[],s,hsz,k1,k2,k3,hid rfl,h0⟩
 case round =>
  clear k1 k2 k3 c2 h0;obtain ⟨pre,r,hr,q1,q2,q3,HZ,hJs⟩:=hrel;have c1:=q1.1;have f1:=q1.2;have c2:=q2.1;have c3:=q3.1;have R:=hid (And.intro q1 (And.intro q2 (And.intro q3 hJs)));have HL:=hid (boxLen_of q1)
  rcases (show Lib.indexByte r.data.toList 47 = -1∨∃k:Nat,Lib.indexByte r.data.toList 47=(k:Int) from by
   have:=Lib.indexByte_ge r.data.toList 47
   rcases (by omega:Lib.indexByte r.data.toList 47 = -1∨0≤Lib.indexByte r.data.toList 47) with h|h
   ·exact .inl h
   ·exact .inr ⟨(Lib.indexByte r.data.toList 47).toNat,by omega⟩) with hi | ⟨k,hi⟩
  ·have HN:=hid (index_none hi)
   have HI:=hid hi;obtain ⟨fn,tmps,assign,body,hy,hR⟩:=hY pre ⟨r,hr⟩ wr hJs;have HY:=hid hR;clear q1 q2 q3 hJs hR hY hJ hi
   gi_wp2_with fail
   refine (callsIn_wide.2 (Any.strings_Index_one Tryz.lays143 _ _ _)).mono ?_;rintro e w1 ⟨rfl,rfl⟩;rw [HI.out]
   gi_wp2_with fail
   refine HY.out.mono ?_;rintro e W3 (⟨rfl,hJ3,hk3⟩|⟨rfl,hJx3⟩)
   ·gi_wp2
    go_end0
    exact ⟨⟨_,rfl⟩,.inl ⟨_,by rw [datas_snoc,HZ.out,zparts_one HN.out],hJ3⟩⟩
   ·gi_wp2
    go_end0
    exact ⟨⟨_,rfl⟩,.inr ⟨_,by rw [datas_snoc,HZ.out,zparts_one HN.out];exact List.prefix_rfl,hJx3⟩⟩
  ·obtain ⟨hk,he,hno⟩:=index_some hi
   have HE:=hid (show zparts s.data.toList=datas (pre++[⟨r.extract 0 k,size_part _ _ _ _ hr⟩])++zparts (r.extract (k+1) r.size).data.toList by rw [datas_snoc,HZ.out,he,zparts_app hno,List.append_assoc];rfl);have HI:=hid hi;obtain ⟨fn,tmps,assign,body,hy,hR⟩:=hY pre ⟨r.extract 0 k,size_part _ _ _ _ hr⟩ wr hJs;have HY:=hid hR;have HJ:=hid hJ;have hn0:¬(k:Int)<0:=by omega
   clear q1 q2 q3 hJs hR hY hJ hi he hno
   gi_wp2_with fail
   refine (callsIn_wide.2 (Any.strings_Index_one Tryz.lays143 _ _ _)).mono ?_;rintro e w1 ⟨rfl,rfl⟩;rw [HI.out]
   gi_wp2_with fail
   refine HY.out.mono ?_;rintro e W3 (⟨rfl,hJ3,hk3⟩|⟨rfl,hJx3⟩)
   ·obtain ⟨q1,q2,q3,hJs⟩:=R.out
    have p1:=hk3.1 _ q1;have p2:=hk3.2.1 _ q2;have p3:=hk3.2.2 _ q3;have d1:=p1.1;have e1:=p1.2;have d2:=p2.1;have R2:=hid (And.intro p1 (And.intro p2 (And.intro p3 hJ3)));clear q1 q2 q3 hJs p1 p2 p3 hJ3 hk3 c1 c2 c3 f1
    gi_wp2_with fail
    go_roundw
    case rel =>
     obtain ⟨p1,p2,p3,hJ3⟩:=R2.out;exact ⟨_,_,size_part _ _ _ _ hr,p1.set_ _,p2.far (Ne.symm ne1) _,p3.far (Ne.symm ne2) _,HE,HJ.out _ _ _ hJ3⟩
    case measure =>
     rw [HL.out,boxLen_of (R2.out.1.set_ _),ByteArray.size_extract]
     omega
   ·gi_wp2_with fail
    refine bodyPost_ret (results_none rfl _ _ _) rfl ?_;exact ⟨⟨_,rfl⟩,.inr ⟨_,by rw [HE.out];exact List.prefix_append _ _,hJx3⟩⟩
theorem zpart_of {s:ByteArray} {c0:Nat} (h:0<s.size) (hc:(s[0]'h).toNat=c0):partB s.data.toList=(ofB 1 14 31 s.data.toList&&decide (c0≠46)&&decide (c0≠45)):=by
 have hf:s.data.toList.getD 0 0=s[0]'h:=by
  rw [List.getD_eq_getElem?_getD,List.getElem?_eq_getElem (by simpa using h)]
  rfl
 have hk:∀k:UInt8,decide ((s[0]'h)≠k)=decide (c0≠k.toNat):=fun k=>decide_eq_decide.2 (not_congr ⟨fun e=>by rw [←hc,e],fun e=>UInt8.toNat_inj.1 (hc.trans e)⟩)
 unfold partB;rw [hf,hk,hk]
 rfl
def ZOf (W:World) (M:Nat) (v:Value):Prop:=∃a b c d:Nat,v=.func (.func 102) #[] #[.pointer (some ⟨a,0,none⟩),.pointer (some ⟨b,0,none⟩),.pointer (some ⟨c,0,none⟩),.pointer (some ⟨d,0,none⟩)]∧(a<M∧b<M∧c<M∧d<M) ∧
 W.cell? ⟨a,0,none⟩=some (.int .i64 1)∧W.cell? ⟨b,0,none⟩=some (.int .i64 14)∧Blk W c 176 (rowOf kindN)∧W.cell? ⟨d,0,none⟩=some (.int .u8 31)
theorem ZOf.of {W:World} {v:Value} (h:IsOf W v 1 14 31):ZOf W W.heap.size v:=by
 obtain ⟨a,b,c,d,e,h1,h2,h3,h4⟩:=h;exact ⟨a,b,c,d,e,⟨block_lt_of_cell h1,block_lt_of_cell h2,h3.lt,block_lt_of_cell h4⟩,h1,h2,h3,h4⟩
theorem ZOf.below {W W':World} {M:Nat} {v:Value} (h:ZOf W M v) (hb:Below M W W'):ZOf W' M v:=by
 obtain ⟨a,b,c,d,e,l,h1,h2,h3,h4⟩:=h;exact ⟨a,b,c,d,e,l,(hb.cell (p:=⟨a,0,none⟩) l.1).trans h1,(hb.cell (p:=⟨b,0,none⟩) l.2.1).trans h2,h3.below hb l.2.2.1,(hb.cell (p:=⟨d,0,none⟩) l.2.2.2).trans h4⟩
theorem ZOf.kept {W W':World} {M:Nat} {v:Value} {row:Option Nat} (h:ZOf W M v) (hg:W.grownBy W' row) (hr:∀r,row=some r→∃o:Obj,W.heap[r]? = some o∧o.isCells=false):ZOf W' M v:=by
 obtain ⟨a,b,c,d,e,l,h1,h2,h3,h4⟩:=h;refine ⟨a,b,c,d,e,l,cell_kept h1 hg hr,cell_kept h2 hg hr,(hg.block c h3.lt ?_).trans h3,cell_kept h4 hg hr⟩;intro hc;obtain ⟨o,ho,hn⟩:=hr c hc.symm;rw [show W.heap[c]? = some (.cells (rowOf kindN) 176 (0,0)) from h3] at ho
 cases ho
 cases hn
theorem ZOf.far {W:World} {M g:Nat} {v:Value} (h:ZOf W M v) (hg:M≤g) (u:Value):ZOf (W.setCell ⟨g,0,none⟩ u) M v:=h.below ((Below.refl _ _).setCell hg _)
theorem keeps_drewN (W:World) (n:Nat):KeepsOthers W (W.drewN n):=⟨Nat.le_refl _,fun _ _ h _=>h⟩
theorem ZOf.call {W:World} {M a b c d:Nat} (h:ZOf W M (.func (.func 102) #[] #[.pointer (some ⟨a,0,none⟩),.pointer (some ⟨b,0,none⟩),.pointer (some ⟨c,0,none⟩),.pointer (some ⟨d,0,none⟩)])) (x:ByteArray) (hx:x.size≤1048576) :
 Calls Tryz.prog 102 #[.string x,.pointer (some ⟨a,0,none⟩),.pointer (some ⟨b,0,none⟩),.pointer (some ⟨c,0,none⟩),.pointer (some ⟨d,0,none⟩)] W fun e w'=>e=.returned (.bool (ofB 1 14 31 x.data.toList))∧∃n,w'=W.drewN n:=by
 obtain ⟨a',b',c',d',e,l,h1,h2,h3,h4⟩:=h;simp only [Value.func.injEq,Array.mk.injEq,List.cons.injEq,Value.pointer.injEq,Option.some.injEq,Addr.mk.injEq,and_true,true_and] at e;obtain ⟨rfl,rfl,rfl,rfl⟩:=e;exact of1_any 1 14 31 x _ _ _ _ W (by decide) hx h1 h2 h3 h4
def ZI (w:World) (M:Nat) (s:ByteArray) (v:Value) (pre:List BA) (W:World):Prop :=
 (CellIs W w.heap.size (.string s)∧CellIs W (w.heap.size+1) (.bool false)∧CellIs W M v∧ZOf W M v∧∀x ∈ pre,partB x.1.data.toList=true∧s.size≤60)∧Below w.heap.size w W
def ZX (w:World) (s:ByteArray) (c:Code) (pre:List BA) (W:World):Prop :=
 (c=.ret∧CellIs W (w.heap.size+1) (.bool false)∧∃q x,pre=q++[x]∧(partB x.1.data.toList=false∨60<s.size))∧Below w.heap.size w W
theorem kpZ_b {Bs Bp Bv:Nat} (W:World) (l:Nat) (o o':Obj) (h:W.heap[l]? = some o) (hc:o.isCells=false):KpZ Bs Bp Bv W (W.putObj l o') :=
 ⟨fun v hv=>hv.kept (grownBy_putObj' W l o') (fun r e=>by cases e;exact ⟨_,h,hc⟩),fun v hv=>hv.kept (grownBy_putObj' W l o') (fun r e=>by cases e;exact ⟨_,h,hc⟩),fun v hv=>hv.kept (grownBy_putObj' W l o') (fun r e=>by cases e;exact ⟨_,h,hc⟩)⟩
theorem KpZ.refl (Bs Bp Bv:Nat) (W:World):KpZ Bs Bp Bv W W:=⟨fun _ h=>h,fun _ h=>h,fun _ h=>h⟩
theorem zone_any (s:ByteArray) (w:World) (hs:s.size≤1048576) :
 Calls Tryz.prog 42 #[.string s] w fun e w'=>e=.returned (.bool (zoneB s.data.toList))∧Below w.heap.size w w':=by
 have HO:=hid (show ∀W,Calls Tryz.prog 66 #[.int .i64 1,.int .i64 14,.int .u8 31] W fun e w'=>(∃v,e=.returned v∧IsOf w' v 1 14 31)∧Below W.heap.size W w' from fun W=>of_any 1 14 31 W);have hwf:∀f,Fence.wide.fn f:=fun _=>trivial
 have hwd:Fence.wide.depth.isSome=false:=rfl;refine (callsIn_wide (n:=8)).1 ?_;refine callsIn_of_wp_marks Tryz.func42 rfl trivial ?_ rfl;simp only [Tryz.ntmps42,List.size_toArray,List.length_cons,List.length_nil,Nat.reduceAdd,Nat.reduceSub,Array.replicate_succ,Array.replicate_zero,List.push_toArray,List.append_toArray,List.nil_append,List.cons_append]
 gi_wp2_with fail
 refine (callsIn_wide.2 (HO.out _)).mono ?_;rintro e w1 ⟨⟨v,rfl,hv⟩,hb1⟩;have b0:Blk w1 w.heap.size 9 #[.string s]:=((Blk.new' w _ _ rfl).alloc _).below hb1 (by simp;omega);have b1:Blk w1 (w.heap.size+1) 4 #[.bool false]:=(Blk.new' _ _ _ (by simp)).below hb1 (by simp);have hbw1:Below w.heap.size w w1:=(((Below.refl _ w).alloc (Nat.le_refl _) _).alloc (by simp) _).trans (hb1.mono (by simp;omega));have c0:=b0.cell_ (i:=0) rfl;have hz:=hb1.size
 simp at hz
 have HB:=hid (And.intro b0 (And.intro b1 hbw1));have HV:=hid (ZOf.of hv);obtain ⟨a,b,c,d,rfl,hv2⟩:=hv;have c01:(w1.alloc (.cells #[.func (.func 102) #[] #[.pointer (some ⟨a,0,none⟩),.pointer (some ⟨b,0,none⟩),.pointer (some ⟨c,0,none⟩),.pointer (some ⟨d,0,none⟩)]] 95)).cell? ⟨w.heap.size,0,none⟩=some (.string s):=(b0.alloc _).cell_ rfl;clear hb1 hv2 hbw1 b0 b1 HO
 gi_wp2_with fail
 refine (callsIn_wide.2 (splitSeq_any _ _)).mono ?_;rintro e w2 ⟨rfl,hw2⟩;simp only [World.size_alloc];have FV:=hid HV.out;have q0:CellIs w2 w.heap.size (.string s):=CellIs.of_blk (by rw [hw2];exact (((HB.out.1.alloc _).alloc _).alloc _).alloc _);have q1:CellIs w2 (w.heap.size+1) (.bool false):=CellIs.of_blk (by rw [hw2];exact (((HB.out.2.1.alloc _).alloc _).alloc _).alloc _);have q2:CellIs w2 w1.heap.size (.func (.func 102) #[] #[.pointer (some ⟨a,0,none⟩),.pointer (some ⟨b,0,none⟩),.pointer (some ⟨c,0,none⟩),.pointer (some ⟨d,0,none⟩)]):=CellIs.of_blk (by rw [hw2];exact (((Blk.new' _ _ _ rfl).alloc _).alloc _).alloc _);have q3:ZOf w2 w1.heap.size (.func (.func 102) #[] #[.pointer (some ⟨a,0,none⟩),.pointer (some ⟨b,0,none⟩),.pointer (some ⟨c,0,none⟩),.pointer (some ⟨d,0,none⟩)]):=HV.out.below (by rw [hw2];exact ((((Below.refl _ _).alloc (Nat.le_refl _) _).alloc (by simp) _).alloc (by simp;omega) _).alloc (by simp;omega) _);have p1:Blk w2 (w1.heap.size+1) 9 #[.string s]:=by rw [hw2];exact ((Blk.new' _ _ _ (by simp)).alloc _).alloc _
 have p2:Blk w2 (w1.heap.size+1+1) 9 #[.string ⟨#[47]⟩]:=by rw [hw2];exact (Blk.new' _ _ _ (by simp)).alloc _
 have p3:Blk w2 (w1.heap.size+1+1+1) 3 #[.int .i64 0]:=by rw [hw2];exact Blk.new' _ _ _ (by simp)
 have hbw2:Below w.heap.size w w2:=by rw [hw2];exact (((HB.out.2.2.alloc (by omega) _).alloc (by simp;omega) _).alloc (by simp;omega) _).alloc (by simp;omega) _
 have HI0:=hid (show ZI w w1.heap.size s (.func (.func 102) #[] #[.pointer (some ⟨a,0,none⟩),.pointer (some ⟨b,0,none⟩),.pointer (some ⟨c,0,none⟩),.pointer (some ⟨d,0,none⟩)]) [] w2 from ⟨⟨q0,q1,q2,q3,by simp⟩,hbw2⟩);have HP:=hid (And.intro p1 (And.intro p2 p3));have HBW2:=hid hbw2;clear hw2 q0 q1 q2 q3 p1 p2 p3 hbw2 c0 c01 HB FV HV
 gi_wp2_with fail
 refine wpIn_rangeFunc_box (by omega) (gf:=136) (lb:=#[.pointer (some ⟨w1.heap.size+1+1,0,none⟩),.pointer (some ⟨w1.heap.size+1,0,none⟩),.pointer (some ⟨w1.heap.size+1+1+1,0,none⟩)]) rfl (enters_of Tryz.func136 (by kernel_rfl) rfl)
  (split1_stops 7 (by omega) (w1.heap.size+1) (w1.heap.size+1+1) (w1.heap.size+1+1+1) s w2 hs HP.out.1 HP.out.2.1 HP.out.2.2 (by omega) (by omega)) (fun h k=>h.trans k) (fun W l o o' _ h hc _=>kpZ_b W l o o' h hc) (fun _=>rfl)
  (ZI w w1.heap.size s (.func (.func 102) #[] #[.pointer (some ⟨a,0,none⟩),.pointer (some ⟨b,0,none⟩),.pointer (some ⟨c,0,none⟩),.pointer (some ⟨d,0,none⟩)])) (ZX w s) ?hI ?hIx ?hIs HI0.out
  (fun x => { tmps:=#[.string s,.pointer (some ⟨w.heap.size,0,none⟩),.pointer (some ⟨w.heap.size+1,0,none⟩),.pointer (some ⟨w1.heap.size,0,none⟩),.string x.1,.func (.func 102) #[] #[.pointer (some ⟨a,0,none⟩),.pointer (some ⟨b,0,none⟩),.pointer (some ⟨c,0,none⟩),.pointer (some ⟨d,0,none⟩)],.string s,.func (.func 136) #[] #[.pointer (some ⟨w1.heap.size+1+1,0,none⟩),.pointer (some ⟨w1.heap.size+1,0,none⟩),.pointer (some ⟨w1.heap.size+1+1+1,0,none⟩)],.string x.1,undef,undef,undef,undef,undef,undef,undef,undef,undef,undef,undef,undef,undef,undef,undef,undef,undef,undef,undef],defers:=[] }) ?assign ?body ?done ?stop
 case hI=>exact OwnFrom.and (Own.from (fun s A B row hs hg hr=>⟨hs.1.kept hg hr,hs.2.1.kept hg hr,hs.2.2.1.kept hg hr,hs.2.2.2.1.kept hg hr,hs.2.2.2.2⟩) _) (ownFrom_below (Nat.le_refl _) HBW2.out.size)
 case hIx=>exact fun c=>OwnFrom.and (Own.from (fun s A B row hs hg hr=>⟨hs.1,hs.2.1.kept hg hr,hs.2.2⟩) _) (ownFrom_below (Nat.le_refl _) HBW2.out.size)
 case hIs=>exact fun pre A v h=>⟨⟨h.1.1.far (by omega) _,h.1.2.1.far (by omega) _,h.1.2.2.1.far (by omega) _,h.1.2.2.2.1.far (by omega) _,h.1.2.2.2.2⟩,h.2.setCell (by show w.heap.size≤w1.heap.size+1;omega) _⟩
 case assign =>
  intro l x W K hK
  gi_wp2
  exact hK
 case body =>
  rintro l pre ⟨x,hx⟩ W ⟨⟨r0,r1,r2,r3,hp⟩,hB⟩;have c0:=r0.1;have c1:=r1.1;have f1:=r1.2;have c2:=r2.1;have R:=hid (And.intro r0 (And.intro r1 (And.intro r2 (And.intro r3 hp))));have HC:=hid (r3.call x hx);clear r0 r1 r2 r3 hp HI0 HP
  by_cases h60:s.size≤60
  ·have hg:¬60<(s.size:Int):=by omega
   obtain ⟨r,hr⟩:∃r,ofB 1 14 31 x.data.toList=r:=⟨_,rfl⟩;rw [hr] at HC;have HR:=hid hr;clear hr
   cases r with
   | false =>
    gi_wp2_with fail
    refine (CallsIn.inRound l (callsIn_wide.2 HC.out)).mono ?_;rintro e w' ⟨rfl,n,rfl⟩;have c1':(W.drewN n).cell? ⟨w.heap.size+1,0,none⟩=some (.bool false):=c1;have f1':(W.drewN n).frozen? ⟨w.heap.size+1,0,none⟩=false:=f1
    gi_wp2_with fail
    obtain ⟨r0,r1,r2,r3,hp⟩:=R.out;have r1':CellIs (W.drewN n) (w.heap.size+1) (.bool false):=r1;have hB':Below w.heap.size w (W.drewN n):=below_drawn hB n;have hP:partB x.data.toList=false:=by unfold partB;rw [HR.out];rfl
    exact ⟨(keeps_drewN W n).trans (KeepsOthers.setCell _ _ _),⟨rfl,r1'.set_ _,pre,⟨x,hx⟩,rfl,.inl hP⟩,hB'.setCell (by show w.heap.size≤w.heap.size+1;omega) _⟩
   | true =>
    have hx0:0<x.size:=by
     have:=ofB_len HR.out;have e:x.data.toList.length=x.size:=by simp
     omega
    obtain ⟨k0,hk0⟩:∃k0:Nat,(x[0]'hx0).toNat=k0:=⟨_,rfl⟩;have g0:∀h,(x[0]'h).toNat=k0:=fun _=>hk0
    have hi0:(0:Int)<(x.size:Int):=by omega
    have HPt:=hid (zpart_of hx0 hk0);clear hk0
    by_cases e46:k0=46
    ·subst e46
     gi_wp2_with fail
     refine (CallsIn.inRound l (callsIn_wide.2 HC.out)).mono ?_;rintro e w' ⟨rfl,n,rfl⟩;have c1':(W.drewN n).cell? ⟨w.heap.size+1,0,none⟩=some (.bool false):=c1;have f1':(W.drewN n).frozen? ⟨w.heap.size+1,0,none⟩=false:=f1
     gi_wp2_with fail
     obtain ⟨r0,r1,r2,r3,hp⟩:=R.out;have r1':CellIs (W.drewN n) (w.heap.size+1) (.bool false):=r1;have hB':Below w.heap.size w (W.drewN n):=below_drawn hB n;have hP:partB x.data.toList=false:=by rw [HPt.out];simp
     exact ⟨(keeps_drewN W n).trans (KeepsOthers.setCell _ _ _),⟨rfl,r1'.set_ _,pre,⟨x,hx⟩,rfl,.inl hP⟩,hB'.setCell (by show w.heap.size≤w.heap.size+1;omega) _⟩
    have b46:((k0:Int)==46)=false:=by rw [beq_eq_false_iff_ne];omega
    by_cases e45:k0=45
    ·subst e45
     gi_wp2_with fail
     refine (CallsIn.inRound l (callsIn_wide.2 HC.out)).mono ?_;rintro e w' ⟨rfl,n,rfl⟩;have c1':(W.drewN n).cell? ⟨w.heap.size+1,0,none⟩=some (.bool false):=c1;have f1':(W.drewN n).frozen? ⟨w.heap.size+1,0,none⟩=false:=f1
     gi_wp2_with fail
     obtain ⟨r0,r1,r2,r3,hp⟩:=R.out;have r1':CellIs (W.drewN n) (w.heap.size+1) (.bool false):=r1;have hB':Below w.heap.size w (W.drewN n):=below_drawn hB n;have hP:partB x.data.toList=false:=by rw [HPt.out];simp
     exact ⟨(keeps_drewN W n).trans (KeepsOthers.setCell _ _ _),⟨rfl,r1'.set_ _,pre,⟨x,hx⟩,rfl,.inl hP⟩,hB'.setCell (by show w.heap.size≤w.heap.size+1;omega) _⟩
    have b45:((k0:Int)==45)=false:=by rw [beq_eq_false_iff_ne];omega
    gi_wp2_with fail
    refine (CallsIn.inRound l (callsIn_wide.2 HC.out)).mono ?_;rintro e w' ⟨rfl,n,rfl⟩
    gi_wp2_with fail
    have hP:partB x.data.toList=true:=by rw [HPt.out,HR.out];simp [e46,e45]
    obtain ⟨r0,r1,r2,r3,hp⟩:=R.out;refine ⟨keeps_drewN W n,KpZ.refl _ _ _ _,⟨r0,r1,r2,r3,?_⟩,below_drawn hB n⟩;intro y hy
    rcases List.mem_append.1 hy with hy|hy
    ·exact hp y hy
    ·rw [List.mem_singleton] at hy
     subst hy;exact ⟨hP,h60⟩
  ·have hg:60<(s.size:Int):=by omega
   gi_wp2_with fail
   obtain ⟨r0,r1,r2,r3,hp⟩:=R.out;refine ⟨KeepsOthers.setCell _ _ _,⟨rfl,r1.set_ _,pre,⟨x,hx⟩,rfl,.inr (by omega)⟩,hB.setCell (by show w.heap.size≤w.heap.size+1;omega) _⟩
 case done =>
  rintro D ys W hD hys ⟨⟨r0,r1,r2,r3,hp⟩,hB⟩ hK;have HYS:=hid hys;have HPP:=hid hp;have c1:=r1.1;have f1:=r1.2;have R:=hid r1;clear hys r0 r1 r2 r3 hp HI0 HP
  have HF:=hid (show zoneB s.data.toList=true from by
   refine zoneB_yes (fun y hy=>?_) ?_
   ·rw [←HYS.out] at hy
    obtain ⟨z,hz,rfl⟩:=List.mem_map.1 hy;exact (HPP.out z hz).1
   ·cases ys with
    | nil=>exact absurd HYS.out.symm (zparts_ne _)
    | cons y ys =>
     have:=(HPP.out y (List.mem_cons_self ..)).2
     simpa using this)
  gi_wp2
  have hK':=(KeepsOthers.setCell W ⟨w.heap.size+1,0,none⟩ (.bool true)).same D _ hK rfl;refine ⟨by simp,.inl ⟨_,_,rfl,run_takeDeferred hK',?_⟩⟩;have g1:=cell_kept (R.out.set_ (.bool true)).1 (grownBy_putObj' _ D (.deferred none)) (fun r e=>by cases e;exact ⟨_,hK',rfl⟩);refine ⟨.bool true,?_,by rw [HF.out],(hB.setCell (by show w.heap.size≤w.heap.size+1;omega) _).trans (belowK_b (w:=w) (Nat.le_refl _) _ D _ _ (by have:=HBW2.out.size;omega) hK' rfl rfl)⟩
  simp [results,Tryz.f42,go_sem,g1]
 case stop =>
  rintro D c pre W hD hpre ⟨⟨rfl,r1,q,x,hq,hbad⟩,hB⟩ hK
  have HF:=hid (show zoneB s.data.toList=false from by
   rcases hbad with h|h
   ·exact zoneB_no (by rw [←datas_snoc,←hq];exact hpre) h
   ·exact zoneB_long (by simpa using h))
  gi_wp2
  refine ⟨by simp,.inl ⟨_,_,rfl,run_takeDeferred hK,?_⟩⟩;have g1:=cell_kept r1.1 (grownBy_putObj' _ D (.deferred none)) (fun r e=>by cases e;exact ⟨_,hK,rfl⟩);refine ⟨.bool false,?_,by rw [HF.out],hB.trans (belowK_b (w:=w) (Nat.le_refl _) W D _ _ (by have:=HBW2.out.size;omega) hK rfl rfl)⟩
  simp [results,Tryz.f42,go_sem,g1]
def RowsAt {α:Type} (w:World) (n₀ k:Nat) (enc:α→Array Value) (sl:Value) (l:List α):Prop :=
 ∃p c,sl=.slice p l.length c∧(l≠[]→∃b o,p=some ⟨b,o,none⟩∧b<n₀∧∀i x,l[i]? = some x→w.rangeAt b (o+i*k) (enc x).toList)
theorem RowsAt.below {α:Type} {w W:World} {n₀ k:Nat} {enc:α→Array Value} {sl:Value} {l:List α} (h:RowsAt w n₀ k enc sl l) (hb:Below n₀ w W):RowsAt W n₀ k enc sl l:=by
 obtain ⟨p,c,e,h2⟩:=h;refine ⟨p,c,e,fun h0=>?_⟩;obtain ⟨b,o,e2,hlt,h3⟩:=h2 h0;exact ⟨b,o,e2,hlt,fun i x hx j v hv=>(hb.cell (p:=⟨b,o+i*k+j,none⟩) hlt).trans (h3 i x hx j v hv)⟩
theorem wpList_load_arr {P:Program} {ops:Array Oper} {rest:List Oper} {op:Oper} {a:Act} {w:World} {Q:Exit→Act→World→Prop} (hgd:op.guard=none) (ty:TypeId) (x:Operand) (ho:op.op=.load ty x)
 (b o:Nat) (hx:a.eval x=.pointer (some ⟨b,o,none⟩)) (C:Array Value) (d:TypeDesc) (hc:w.rangeAt b o C.toList)
 (hu:P.underlying ty=some d) (hd:d.isRow=true) (hi:(P.info? ty).map (·.size)=some C.size)
 (h:wpList P ops Q rest (a.put op.dst (.agg C)) w):wpList P ops Q (op::rest) a w :=
 wpList_load_mid hgd ty x ho b o hx C.toList d hc hu hd (by simpa using hi) (by simpa using h)
theorem own_kept {B:Nat} {e:TypeId} {k:Nat} {v:Value} {n:Nat} {xs:List Value} {w w':World} (h:w.ownsRow B e k v n xs) (hb:Below w.heap.size w w'):w'.ownsRow B e k v n xs :=
 h.kept (row:=none) ⟨hb.os,hb.tape,hb.output,hb.size,fun j hj _=>hb.block j hj⟩ (by cases hv:v.ownBlock<;>simp)
theorem all_take {B:List UInt8→Bool} {ls:List (List UInt8)} {k:Nat} {l:List UInt8} (hk:k<ls.length) (hl:ls[k]? = some l):(ls.take (k+1)).all B=((ls.take k).all B&&B l):=by
 rw [List.take_add_one,hl,List.all_append]
 simp
theorem nfunZone_any (s:ByteArray) (Bx:Nat) (w:World) (hs:s.size≤1048576) (hc:w.cell? ⟨Bx,0,none⟩=some (.func (.func 42) #[] #[])) :
 Calls Tryz.prog 110 #[.string s,.pointer (some ⟨Bx,0,none⟩)] w fun e w'=>e=.returned (.bool (!zoneB s.data.toList))∧Below w.heap.size w w':=by
 have HC:=hid (zone_any s w hs);obtain ⟨r,hr⟩:∃r,zoneB s.data.toList=r:=⟨_,rfl⟩;rw [hr] at HC ⊢;clear hr
 cases r
 all_goals
  go_enter Tryz.func110,Tryz.ntmps110;go_wp2_with fail
  refine HC.out.mono ?_;rintro e w1 ⟨rfl,hb1⟩;go_wp2_with fail
  go_ret
  exact ⟨rfl,hb1⟩
theorem nindexZone_any (b o c:Nat) (ls:List (List UInt8)) (Bx:Nat) (w:World) (hr:StrRow w b o ls) (hl:ls.length≤10) (hz:∀l ∈ ls,l.length≤1048576) (hc:w.cell? ⟨Bx,0,none⟩=some (.func (.func 42) #[] #[])) :
 Calls Tryz.prog 78 #[.slice (some ⟨b,o,none⟩) ls.length c,.func (.func 110) #[] #[.pointer (some ⟨Bx,0,none⟩)]] w fun e w'=>(∃x:Int,e=.returned (.int .i64 x)∧decide (0≤x) = !ls.all zoneB)∧Below w.heap.size w w':=by
 have HR:=hid hr;have HZ:=hid hz;have HC:=hid hc;clear hr hz hc
 go_enter Tryz.func78,Tryz.ntmps78;go_wp2_with fail
 go_loopw [5,8] (fun _ i wr=>∃k:Nat,k≤ls.length∧i=.int .i64 (k:Int)∧Hid ((ls.take k).all zoneB=true)∧Below w.heap.size w wr) (fun _ i _=>ls.length-(intOf i).toNat)
 case atStart=>exact ⟨0,Nat.zero_le _,rfl,hid (by simp),Below.refl _ _⟩
 case round =>
  obtain ⟨k,hk,rfl,HA,hB⟩:=hrel
  by_cases hlt:k<ls.length
  ·obtain ⟨l,hx⟩:∃l,ls[k]? = some l:=⟨_,List.getElem?_eq_getElem hlt⟩
   have hd:decide ((k:Int)<(ls.length:Int))=true:=by simp;omega
   have ck:wr.cell? ⟨b,o+k,none⟩=some (.string ⟨l.toArray⟩):=((HR.out.below hB).at_ k l hx);have hlm:l ∈ ls:=List.mem_of_getElem? hx;have hsz:(⟨l.toArray⟩:ByteArray).size≤1048576:=HZ.out l hlm;have HB:=hid hB;have cB:wr.cell? ⟨Bx,0,none⟩=some (.func (.func 42) #[] #[]):=(hB.cell (block_lt_of_cell HC.out)).trans HC.out;have HN:=hid (nfunZone_any ⟨l.toArray⟩ Bx wr hsz cB);have hT:=all_take (B:=zoneB) hlt hx;rw [HA.out,Bool.true_and] at hT
   have hno:zoneB l=false→(!ls.all zoneB)=true:=fun h=>by
    rw [show ls.all zoneB=false from List.all_eq_false.2 ⟨l,hlm,by rw [h];decide⟩];rfl
   have e1:zoneB (⟨l.toArray⟩:ByteArray).data.toList=zoneB l:=rfl;rw [e1] at HN;obtain ⟨r,hr⟩:∃r,zoneB l=r:=⟨_,rfl⟩;rw [hr] at HN hT hno;have HT:=hid hT;have HNO:=hid hno;clear hx hB hlm hsz cB hT hno e1 hr HA;generalize (⟨l.toArray⟩:ByteArray)=z at *
   cases r with
   | true =>
    go_wp2_with fail
    refine HN.out.mono ?_;rintro e w1 ⟨rfl,hb1⟩;have hB1:=HB.out.trans (hb1.mono HB.out.size);go_wp2_with fail
    go_roundw
    case rel=>exact ⟨k+1,by omega,by go_num,HT,hB1⟩
    case measure=>simp [intOf];omega
   | false =>
    go_wp2_with fail
    refine HN.out.mono ?_;rintro e w1 ⟨rfl,hb1⟩;have hB1:=HB.out.trans (hb1.mono HB.out.size);go_wp2_with fail
    go_ret
    exact ⟨⟨_,rfl,by rw [HNO.out trivial];simp⟩,hB1⟩
  ·obtain rfl:k=ls.length:=by omega
   have hd:decide ((ls.length:Int)<(ls.length:Int))=false:=by simp
   have HT:=hid (show ls.all zoneB=true from by have:=HA.out;rwa [List.take_length] at this);clear HA hlt hk;go_wp2_with fail
   go_ret
   exact ⟨⟨_,rfl,by rw [HT.out];rfl⟩,hB⟩
theorem ncontZone_any (b o c:Nat) (ls:List (List UInt8)) (Bx:Nat) (w:World) (hr:StrRow w b o ls) (hl:ls.length≤10) (hz:∀l ∈ ls,l.length≤1048576) (hc:w.cell? ⟨Bx,0,none⟩=some (.func (.func 42) #[] #[])) :
 Calls Tryz.prog 109 #[.slice (some ⟨b,o,none⟩) ls.length c,.func (.func 110) #[] #[.pointer (some ⟨Bx,0,none⟩)]] w fun e w'=>e=.returned (.bool (!ls.all zoneB))∧Below w.heap.size w w':=by
 have HN:=hid (nindexZone_any b o c ls Bx w hr hl hz hc);clear hr hz hc
 go_enter Tryz.func109,Tryz.ntmps109;go_wp2_with fail
 refine HN.out.mono ?_;rintro e w1 ⟨⟨x,rfl,hx⟩,hb1⟩;have HX:=hid hx;clear hx;go_wp2_with fail
 go_ret
 exact ⟨by rw [←HX.out];rfl,hb1⟩
theorem namesZone_any (b o c:Nat) (ls:List (List UInt8)) (w:World) (hr:StrRow w b o ls) (hl:ls.length≤10) (hz:∀l ∈ ls,l.length≤1048576) :
 Calls Tryz.prog 74 #[.slice (some ⟨b,o,none⟩) ls.length c,.int .i64 (ls.length:Int),.func (.func 42) #[] #[]] w fun e w'=>e=.returned (.int .i64 (if ls.all zoneB=true then 0 else 9))∧Below w.heap.size w w':=by
 have hb0:Below w.heap.size w (w.alloc (.cells #[.func (.func 42) #[] #[]] 95)):=(Below.refl _ _).alloc (Nat.le_refl _) _;have HN:=hid (ncontZone_any b o c ls w.heap.size _ (hr.below hb0) hl hz ((Blk.new' w 95 #[.func (.func 42) #[] #[]] rfl).cell_ rfl));have HB0:=hid hb0;obtain ⟨r,hr2⟩:∃r,ls.all zoneB=r:=⟨_,rfl⟩;rw [hr2] at HN ⊢;clear hr hz hr2 hb0
 cases r
 all_goals
  go_enter Tryz.func74,Tryz.ntmps74;go_wp2_with fail
  refine HN.out.mono ?_;rintro e w1 ⟨rfl,hb1⟩;have HB1:=hid (HB0.out.trans (hb1.mono HB0.out.size));clear hb1;go_wp2_with fail
  go_ret
  exact ⟨rfl,HB1.out⟩
theorem lineZone_any (b o c:Nat) (ls:List (List UInt8)) (word:ByteArray) (w:World) (hr:StrRow w b o ls) (hl:ls.length≤10) (hc:ls.length≤c) (hz:∀l ∈ ls,l.length≤1048576) (hw:word.size≤100) (hJ:(Lib.join ls [32]).length≤100000000000) :
 Calls Tryz.prog 41 #[.func (.func 42) #[] #[],.string word,.slice (some ⟨b,o,none⟩) ls.length c] w fun e w'=>e=.returned (if ls.all zoneB=true then .tuple #[.string ⟨(word.data.toList++[32]++Lib.join ls [32]).toArray⟩,.int .i64 0] else .tuple #[.string ⟨#[]⟩,.int .i64 2])∧Below w.heap.size w w':=by
 have HN:=hid (namesZone_any b o c ls w hr hl hz)
 have HJ:=hid (show ∀W,Below w.heap.size w W→ls.all zoneB=true→Calls Tryz.prog 7 #[.slice (some ⟨b,o,none⟩) ls.length c,.string ⟨#[32]⟩] W fun e w'=>e=.returned (.string ⟨(Lib.join ls [32]).toArray⟩)∧Below W.heap.size W w' from fun W hW hall=>by
  have h:=Any.strings_Join Tryz.lays156 Tryz.Builder_Extra_156 b o c (ls.map fun l=>⟨l.toArray⟩) ⟨#[32]⟩ W (fun j x hx=>by
   rw [List.getElem?_map] at hx
   cases hj:ls[j]? with
   | none=>rw [hj] at hx;cases hx
   | some l=>rw [hj] at hx;cases hx;exact (hr.below hW).at_ j l hj) (Nat.lt_of_lt_of_le hr.lt hW.size) (by simp;omega) (by simpa using hc) (by rw [show ((ls.map fun l=>(⟨l.toArray⟩:ByteArray)).map (·.data.toList))=ls by rw [List.map_map];simp [Function.comp_def]];show (Lib.join ls [32]).length≤_;omega)
  have e:((ls.map fun l=>(⟨l.toArray⟩:ByteArray)).map (·.data.toList))=ls:=by rw [List.map_map];simp [Function.comp_def]
  rw [e,List.length_map] at h;exact h)
 obtain ⟨r,hr2⟩:∃r,ls.all zoneB=r:=⟨_,rfl⟩;rw [hr2] at HN HJ ⊢;clear hr hz hr2;obtain ⟨jb,hjb⟩:∃jb:ByteArray,(⟨(Lib.join ls [32]).toArray⟩:ByteArray)=jb:=⟨_,rfl⟩
 have HR:=hid (show (⟨(word.data.toList++[32]++Lib.join ls [32]).toArray⟩:ByteArray)=word++⟨#[32]⟩++jb from by
  rw [←hjb]
  apply ByteArray.ext
  simp [ByteArray.data_append])
 have hjs:jb.size≤100000000000:=by rw [←hjb];simpa [ByteArray.size] using hJ
 simp only [hjb] at HJ;clear hjb hJ
 cases r with
 | false =>
  go_enter Tryz.func41,Tryz.ntmps41;go_wp2_with fail
  refine HN.out.mono ?_;rintro e w1 ⟨rfl,hb1⟩;go_wp2_with fail
  go_ret2
  exact ⟨rfl,hb1⟩
 | true =>
  rw [if_pos rfl,HR.out]
  go_enter Tryz.func41,Tryz.ntmps41;go_wp2_with fail
  refine HN.out.mono ?_;rintro e w1 ⟨rfl,hb1⟩;have HB1:=hid hb1;clear hb1 HN;go_wp2_with fail
  refine (HJ.out _ HB1.out trivial).mono ?_;rintro e w2 ⟨rfl,hb2⟩;have HB2:=hid (HB1.out.trans (hb2.mono HB1.out.size));clear hb2 HB1 HJ;go_wp2_with fail
  go_ret2
  exact ⟨rfl,HB2.out⟩
theorem nfunSet_any (s:ByteArray) (Bx:Nat) (w:World) (hs:s.size≤1048576) (hc:w.cell? ⟨Bx,0,none⟩=some (.func (.func 32) #[] #[])) :
 Calls Tryz.prog 110 #[.string s,.pointer (some ⟨Bx,0,none⟩)] w fun e w'=>e=.returned (.bool (!setB s.data.toList))∧Below w.heap.size w w':=by
 have HC:=hid (set_any s w hs);obtain ⟨r,hr⟩:∃r,setB s.data.toList=r:=⟨_,rfl⟩;rw [hr] at HC ⊢;clear hr
 cases r
 all_goals
  go_enter Tryz.func110,Tryz.ntmps110;go_wp2_with fail
  refine HC.out.mono ?_;rintro e w1 ⟨rfl,hb1⟩;go_wp2_with fail
  go_ret
  exact ⟨rfl,hb1⟩
theorem nindexSet_any (b o c:Nat) (ls:List (List UInt8)) (Bx:Nat) (w:World) (hr:StrRow w b o ls) (hl:ls.length≤10) (hz:∀l ∈ ls,l.length≤1048576) (hc:w.cell? ⟨Bx,0,none⟩=some (.func (.func 32) #[] #[])) :
 Calls Tryz.prog 78 #[.slice (some ⟨b,o,none⟩) ls.length c,.func (.func 110) #[] #[.pointer (some ⟨Bx,0,none⟩)]] w fun e w'=>(∃x:Int,e=.returned (.int .i64 x)∧decide (0≤x) = !ls.all setB)∧Below w.heap.size w w':=by
 have HR:=hid hr;have HZ:=hid hz;have HC:=hid hc;clear hr hz hc
 go_enter Tryz.func78,Tryz.ntmps78;go_wp2_with fail
 go_loopw [5,8] (fun _ i wr=>∃k:Nat,k≤ls.length∧i=.int .i64 (k:Int)∧Hid ((ls.take k).all setB=true)∧Below w.heap.size w wr) (fun _ i _=>ls.length-(intOf i).toNat)
 case atStart=>exact ⟨0,Nat.zero_le _,rfl,hid (by simp),Below.refl _ _⟩
 case round =>
  obtain ⟨k,hk,rfl,HA,hB⟩:=hrel
  by_cases hlt:k<ls.length
  ·obtain ⟨l,hx⟩:∃l,ls[k]? = some l:=⟨_,List.getElem?_eq_getElem hlt⟩
   have hd:decide ((k:Int)<(ls.length:Int))=true:=by simp;omega
   have ck:wr.cell? ⟨b,o+k,none⟩=some (.string ⟨l.toArray⟩):=((HR.out.below hB).at_ k l hx);have hlm:l ∈ ls:=List.mem_of_getElem? hx;have hsz:(⟨l.toArray⟩:ByteArray).size≤1048576:=HZ.out l hlm;have HB:=hid hB;have cB:wr.cell? ⟨Bx,0,none⟩=some (.func (.func 32) #[] #[]):=(hB.cell (block_lt_of_cell HC.out)).trans HC.out;have HN:=hid (nfunSet_any ⟨l.toArray⟩ Bx wr hsz cB);have hT:=all_take (B:=setB) hlt hx;rw [HA.out,Bool.true_and] at hT
   have hno:setB l=false→(!ls.all setB)=true:=fun h=>by
    rw [show ls.all setB=false from List.all_eq_false.2 ⟨l,hlm,by rw [h];decide⟩];rfl
   have e1:setB (⟨l.toArray⟩:ByteArray).data.toList=setB l:=rfl;rw [e1] at HN;obtain ⟨r,hr⟩:∃r,setB l=r:=⟨_,rfl⟩;rw [hr] at HN hT hno;have HT:=hid hT;have HNO:=hid hno;clear hx hB hlm hsz cB hT hno e1 hr HA;generalize (⟨l.toArray⟩:ByteArray)=z at *
   cases r with
   | true =>
    go_wp2_with fail
    refine HN.out.mono ?_;rintro e w1 ⟨rfl,hb1⟩;have hB1:=HB.out.trans (hb1.mono HB.out.size);go_wp2_with fail
    go_roundw
    case rel=>exact ⟨k+1,by omega,by go_num,HT,hB1⟩
    case measure=>simp [intOf];omega
   | false =>
    go_wp2_with fail
    refine HN.out.mono ?_;rintro e w1 ⟨rfl,hb1⟩;have hB1:=HB.out.trans (hb1.mono HB.out.size);go_wp2_with fail
    go_ret
    exact ⟨⟨_,rfl,by rw [HNO.out trivial];simp⟩,hB1⟩
  ·obtain rfl:k=ls.length:=by omega
   have hd:decide ((ls.length:Int)<(ls.length:Int))=false:=by simp
   have HT:=hid (show ls.all setB=true from by have:=HA.out;rwa [List.take_length] at this);clear HA hlt hk;go_wp2_with fail
   go_ret
   exact ⟨⟨_,rfl,by rw [HT.out];rfl⟩,hB⟩
theorem ncontSet_any (b o c:Nat) (ls:List (List UInt8)) (Bx:Nat) (w:World) (hr:StrRow w b o ls) (hl:ls.length≤10) (hz:∀l ∈ ls,l.length≤1048576) (hc:w.cell? ⟨Bx,0,none⟩=some (.func (.func 32) #[] #[])) :
 Calls Tryz.prog 109 #[.slice (some ⟨b,o,none⟩) ls.length c,.func (.func 110) #[] #[.pointer (some ⟨Bx,0,none⟩)]] w fun e w'=>e=.returned (.bool (!ls.all setB))∧Below w.heap.size w w':=by
 have HN:=hid (nindexSet_any b o c ls Bx w hr hl hz hc);clear hr hz hc
 go_enter Tryz.func109,Tryz.ntmps109;go_wp2_with fail
 refine HN.out.mono ?_;rintro e w1 ⟨⟨x,rfl,hx⟩,hb1⟩;have HX:=hid hx;clear hx;go_wp2_with fail
 go_ret
 exact ⟨by rw [←HX.out];rfl,hb1⟩
theorem namesSet_any (b o c:Nat) (ls:List (List UInt8)) (w:World) (hr:StrRow w b o ls) (hl:ls.length≤10) (hz:∀l ∈ ls,l.length≤1048576) :
 Calls Tryz.prog 74 #[.slice (some ⟨b,o,none⟩) ls.length c,.int .i64 (ls.length:Int),.func (.func 32) #[] #[]] w fun e w'=>e=.returned (.int .i64 (if ls.all setB=true then 0 else 9))∧Below w.heap.size w w':=by
 have hb0:Below w.heap.size w (w.alloc (.cells #[.func (.func 32) #[] #[]] 95)):=(Below.refl _ _).alloc (Nat.le_refl _) _;have HN:=hid (ncontSet_any b o c ls w.heap.size _ (hr.below hb0) hl hz ((Blk.new' w 95 #[.func (.func 32) #[] #[]] rfl).cell_ rfl));have HB0:=hid hb0;obtain ⟨r,hr2⟩:∃r,ls.all setB=r:=⟨_,rfl⟩;rw [hr2] at HN ⊢;clear hr hz hr2 hb0
 cases r
 all_goals
  go_enter Tryz.func74,Tryz.ntmps74;go_wp2_with fail
  refine HN.out.mono ?_;rintro e w1 ⟨rfl,hb1⟩;have HB1:=hid (HB0.out.trans (hb1.mono HB0.out.size));clear hb1;go_wp2_with fail
  go_ret
  exact ⟨rfl,HB1.out⟩
theorem lineSet_any (b o c:Nat) (ls:List (List UInt8)) (word:ByteArray) (w:World) (hr:StrRow w b o ls) (hl:ls.length≤10) (hc:ls.length≤c) (hz:∀l ∈ ls,l.length≤1048576) (hw:word.size≤100) (hJ:(Lib.join ls [32]).length≤100000000000) :
 Calls Tryz.prog 41 #[.func (.func 32) #[] #[],.string word,.slice (some ⟨b,o,none⟩) ls.length c] w fun e w'=>e=.returned (if ls.all setB=true then .tuple #[.string ⟨(word.data.toList++[32]++Lib.join ls [32]).toArray⟩,.int .i64 0] else .tuple #[.string ⟨#[]⟩,.int .i64 2])∧Below w.heap.size w w':=by
 have HN:=hid (namesSet_any b o c ls w hr hl hz)
 have HJ:=hid (show ∀W,Below w.heap.size w W→ls.all setB=true→Calls Tryz.prog 7 #[.slice (some ⟨b,o,none⟩) ls.length c,.string ⟨#[32]⟩] W fun e w'=>e=.returned (.string ⟨(Lib.join ls [32]).toArray⟩)∧Below W.heap.size W w' from fun W hW hall=>by
  have h:=Any.strings_Join Tryz.lays156 Tryz.Builder_Extra_156 b o c (ls.map fun l=>⟨l.toArray⟩) ⟨#[32]⟩ W (fun j x hx=>by
   rw [List.getElem?_map] at hx
   cases hj:ls[j]? with
   | none=>rw [hj] at hx;cases hx
   | some l=>rw [hj] at hx;cases hx;exact (hr.below hW).at_ j l hj) (Nat.lt_of_lt_of_le hr.lt hW.size) (by simp;omega) (by simpa using hc) (by rw [show ((ls.map fun l=>(⟨l.toArray⟩:ByteArray)).map (·.data.toList))=ls by rw [List.map_map];simp [Function.comp_def]];show (Lib.join ls [32]).length≤_;omega)
  have e:((ls.map fun l=>(⟨l.toArray⟩:ByteArray)).map (·.data.toList))=ls:=by rw [List.map_map];simp [Function.comp_def]
  rw [e,List.length_map] at h;exact h)
 obtain ⟨r,hr2⟩:∃r,ls.all setB=r:=⟨_,rfl⟩;rw [hr2] at HN HJ ⊢;clear hr hz hr2;obtain ⟨jb,hjb⟩:∃jb:ByteArray,(⟨(Lib.join ls [32]).toArray⟩:ByteArray)=jb:=⟨_,rfl⟩
 have HR:=hid (show (⟨(word.data.toList++[32]++Lib.join ls [32]).toArray⟩:ByteArray)=word++⟨#[32]⟩++jb from by
  rw [←hjb]
  apply ByteArray.ext
  simp [ByteArray.data_append])
 have hjs:jb.size≤100000000000:=by rw [←hjb];simpa [ByteArray.size] using hJ
 simp only [hjb] at HJ;clear hjb hJ
 cases r with
 | false =>
  go_enter Tryz.func41,Tryz.ntmps41;go_wp2_with fail
  refine HN.out.mono ?_;rintro e w1 ⟨rfl,hb1⟩;go_wp2_with fail
  go_ret2
  exact ⟨rfl,hb1⟩
 | true =>
  rw [if_pos rfl,HR.out]
  go_enter Tryz.func41,Tryz.ntmps41;go_wp2_with fail
  refine HN.out.mono ?_;rintro e w1 ⟨rfl,hb1⟩;have HB1:=hid hb1;clear hb1 HN;go_wp2_with fail
  refine (HJ.out _ HB1.out trivial).mono ?_;rintro e w2 ⟨rfl,hb2⟩;have HB2:=hid (HB1.out.trans (hb2.mono HB1.out.size));clear hb2 HB1 HJ;go_wp2_with fail
  go_ret2
  exact ⟨rfl,HB2.out⟩
theorem row_two (w:World) (a b:List UInt8):StrRow (w.alloc (.cells #[.string ⟨a.toArray⟩,.string ⟨b.toArray⟩] 9)) w.heap.size 0 [a,b] :=
 ⟨by simp,fun j l hl=>by
  rw [Nat.zero_add];refine (Blk.new' w _ _ rfl).cell_ ?_
  match j,hl with
  | 0,hl=>cases hl;rfl
  | 1,hl=>cases hl;rfl
  | j+2,hl=>simp at hl⟩
theorem row_one1 (w:World) (a:List UInt8):StrRow (w.alloc (.cells #[.string ⟨a.toArray⟩] 9)) w.heap.size 0 [a] :=
 ⟨by simp,fun j l hl=>by
  rw [Nat.zero_add];refine (Blk.new' w _ _ rfl).cell_ ?_
  match j,hl with
  | 0,hl=>cases hl;rfl
  | j+1,hl=>simp at hl⟩
theorem join_two (a b:List UInt8):Lib.join [a,b] [32]=a++[32]++b:=by rw [Lib.join_cons];simp [Lib.joinTail]
theorem linkPrint_any (l:LinkP) (w:World) (h1:l.target.length≤1048576) (h2:l.name.length≤1048576) :
 Calls Tryz.prog 18 #[.agg l.cells] w fun e w'=>e=.returned (.tuple #[.string ⟨(linkPrintR l).1.toArray⟩,.int .i64 (linkPrintR l).2])∧Below w.heap.size w w':=by
 obtain ⟨a,b⟩:=l;have HB0:=hid (show Below w.heap.size w ((w.alloc (.cells #[.string ⟨a.toArray⟩,.string ⟨b.toArray⟩] 64)).alloc (.cells #[.string ⟨a.toArray⟩,.string ⟨b.toArray⟩] 9)) from ((Below.refl _ _).alloc (Nat.le_refl _) _).alloc (by simp) _);have HL:=hid (lineZone_any _ 0 2 [a,b] ⟨#[76,105,110,107]⟩ _ (row_two (w.alloc (.cells #[.string ⟨a.toArray⟩,.string ⟨b.toArray⟩] 64)) a b) (by simp) (by simp) (by simp;exact ⟨h1,h2⟩) (by decide) (by rw [join_two];simp only [List.length_append,List.length_singleton];simp only at h1 h2;omega))
 have hR:(if ([a,b].all zoneB)=true then Value.tuple #[.string ⟨((⟨#[76,105,110,107]⟩:ByteArray).data.toList++[32]++Lib.join [a,b] [32]).toArray⟩,.int .i64 0] else .tuple #[.string ⟨#[]⟩,.int .i64 2])=.tuple #[.string ⟨(linkPrintR ⟨a,b⟩).1.toArray⟩,.int .i64 (linkPrintR ⟨a,b⟩).2]:=by
  unfold linkPrintR linkOk linkT;rw [join_two];simp only [List.all_cons,List.all_nil,Bool.and_true]
  split
  ·rfl
  ·rfl
 rw [hR] at HL;generalize linkPrintR ⟨a,b⟩=R at *;obtain ⟨R1,R2⟩:=R;obtain ⟨sa,hsa⟩:∃sa:ByteArray,(⟨a.toArray⟩:ByteArray)=sa:=⟨_,rfl⟩;obtain ⟨sb,hsb⟩:∃sb:ByteArray,(⟨b.toArray⟩:ByteArray)=sb:=⟨_,rfl⟩;simp only [LinkP.cells];rw [hsa,hsb] at HL HB0 ⊢;simp only [World.size_alloc,List.length_cons,List.length_nil,Nat.zero_add,Nat.reduceAdd] at HL;clear hR hsa hsb h1 h2
 go_enter Tryz.func18,Tryz.ntmps18;go_wp2_with fail
 refine HL.out.mono ?_;rintro e w1 ⟨rfl,hb1⟩;have HB1:=hid (HB0.out.trans (hb1.mono (by omega)));clear hb1 HB0 HL;go_wp2_with fail
 go_ret2
 exact ⟨rfl,HB1.out⟩
theorem shiftPrint_any (a:List UInt8) (w:World) (h1:a.length≤1048576) :
 Calls Tryz.prog 19 #[.string ⟨a.toArray⟩] w fun e w'=>e=.returned (.tuple #[.string ⟨(shiftPrintR a).1.toArray⟩,.int .i64 (shiftPrintR a).2])∧Below w.heap.size w w':=by
 have HB0:=hid (show Below w.heap.size w (w.alloc (.cells #[.string ⟨a.toArray⟩] 9)) from (Below.refl _ _).alloc (Nat.le_refl _) _);have HL:=hid (lineSet_any _ 0 1 [a] ⟨#[83,104,105,102,116]⟩ _ (row_one1 w a) (by simp) (by simp) (by simp;exact h1) (by decide) (by rw [Lib.join_one];omega))
 have hR:(if ([a].all setB)=true then Value.tuple #[.string ⟨((⟨#[83,104,105,102,116]⟩:ByteArray).data.toList++[32]++Lib.join [a] [32]).toArray⟩,.int .i64 0] else .tuple #[.string ⟨#[]⟩,.int .i64 2])=.tuple #[.string ⟨(shiftPrintR a).1.toArray⟩,.int .i64 (shiftPrintR a).2]:=by
  unfold shiftPrintR shiftT;rw [Lib.join_one];simp only [List.all_cons,List.all_nil,Bool.and_true]
  split
  ·rfl
  ·rfl
 rw [hR] at HL;generalize shiftPrintR a=R at *;obtain ⟨R1,R2⟩:=R;obtain ⟨sa,hsa⟩:∃sa:ByteArray,(⟨a.toArray⟩:ByteArray)=sa:=⟨_,rfl⟩;rw [hsa] at HL HB0 ⊢;simp only [List.length_cons,List.length_nil,Nat.zero_add] at HL;clear hR hsa h1
 go_enter Tryz.func19,Tryz.ntmps19;go_wp2_with fail
 refine HL.out.mono ?_;rintro e w1 ⟨rfl,hb1⟩;have HB1:=hid (HB0.out.trans (hb1.mono HB0.out.size));clear hb1 HB0 HL;go_wp2_with fail
 go_ret2
 exact ⟨rfl,HB1.out⟩
end Go.Proofs.YtboagmbmmoomiaaGreatDoor
