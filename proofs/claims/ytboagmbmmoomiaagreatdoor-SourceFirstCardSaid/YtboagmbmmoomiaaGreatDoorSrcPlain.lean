/-
  The plain side of layer 5: the fields of a line, as the program reads them and as the document does; the lines of a text.
  The plain side of layer 13: what is read so far, what a line makes of it, the source of a text.
-/
import Derived.Test.YtboagmbmmoomiaaGreatDoorDayAll
import Derived.Test.YtboagmbmmoomiaaGreatDoorPLink
set_option linter.unusedVariables false
set_option linter.unusedSimpArgs false
set_option maxRecDepth 100000
set_option maxHeartbeats 4000000
namespace Go.Proofs.YtboagmbmmoomiaaGreatDoor
open Go.RowKit
def prC (c:UInt8):Bool:=decide (32≤c.toNat)&&decide (c.toNat≤126)
def plC (c:UInt8):Bool:=decide (33≤c.toNat)&&decide (c.toNat≤126)&&decide (c≠35)&&decide (c≠34)
def fldGo:List UInt8→List (List UInt8)→List UInt8→Bool→Bool→List (List UInt8) × Int
 | [],out,f,i,q=>if q then ([],5) else (if i then out++[f] else out,0)
 | c::l,out,f,i,q =>
  if q then (if c=34 then fldGo l out f i false else if prC c then fldGo l out (f++[c]) i true else ([],5))
  else if c=34 then fldGo l out f true true
  else if c=35 then (if i then out++[f] else out,0)
  else if c=9∨c=32 then (if i then fldGo l (out++[f]) [] false false else fldGo l out f false false)
  else if prC c then fldGo l out (f++[c]) true false
  else ([],5)
def fieldsR (s:List UInt8):List (List UInt8) × Int:=if 300<s.length then ([],6) else fldGo s [] [] false false
theorem plC_of {c:UInt8} (h:plC c=true):prC c=true∧c≠34∧c≠35∧c≠9∧c≠32:=by
 unfold plC at h;unfold prC;simp only [Bool.and_eq_true,decide_eq_true_eq] at h ⊢;obtain ⟨⟨⟨h1,h2⟩,h3⟩,h4⟩:=h;refine ⟨⟨by omega,h2⟩,h4,h3,?_,?_⟩<;>(rintro rfl;revert h1;decide)
def nlParts:List UInt8→List (List UInt8)
 | []=>[[]]
 | c::t=>if c=10 then []::nlParts t else match nlParts t with
  | []=>[[c]]
  | p::q=>(c::p)::q
theorem nlParts_ne (l:List UInt8):nlParts l≠[]:=by
 cases l with
 | nil=>simp [nlParts]
 | cons c t =>
  unfold nlParts
  split
  ·simp
  ·split<;>simp
theorem nlParts_one {a:List UInt8} (h:(10:UInt8) ∉ a):nlParts a=[a]:=by
 induction a with
 | nil=>rfl
 | cons c t ih =>
  have h1:c≠10:=fun e=>h (e ▸ List.mem_cons_self ..)
  rw [nlParts,if_neg h1,ih (fun m=>h (List.mem_cons_of_mem _ m))]
theorem nlParts_app {a b:List UInt8} (h:(10:UInt8) ∉ a):nlParts (a++10::b)=a::nlParts b:=by
 induction a with
 | nil=>rw [List.nil_append,nlParts,if_pos rfl]
 | cons c t ih =>
  have h1:c≠10:=fun e=>h (e ▸ List.mem_cons_self ..)
  rw [List.cons_append,nlParts,if_neg h1,ih (fun m=>h (List.mem_cons_of_mem _ m))]
def trimNl (s:List UInt8):List UInt8:=if s.getLast? = some 10 then s.dropLast else s
def longAt:Nat→List (List UInt8)→Option Nat
 | _,[]=>none
 | k,x::l=>if 300<x.length then some k else longAt (k+1) l
def nlR (s:List UInt8):List (List UInt8) × Int × Int :=
 if 8388608<s.length then ([],1,6) else match longAt 1 (nlParts (trimNl s)) with
  | some k=>([],(k:Int),6)
  | none=>(nlParts (trimNl s),0,0)
structure LinesP where
 rules:List Int
 eras:List (List Int)
 links:List Int
 shifts:List Int
deriving instance DecidableEq for LinesP
structure RdP where
 s:SourceP
 l:LinesP
 op:Bool
def SourceP.none:SourceP:=⟨[],[],[],[]⟩
def LinesP.none:LinesP:=⟨[],[],[],[]⟩
def RdP.none:RdP:=⟨SourceP.none,LinesP.none,false⟩
def lineL:List (List UInt8):=[[114,117,108,101],[122,111,110,101],[108,105,110,107],[115,104,105,102,116]]
def linkR (f:List (List UInt8)):LinkP × Int:=if f.length≠2 then (⟨[],[]⟩,5) else if (f.all zoneB)=false then (⟨[],[]⟩,9) else (⟨f.getD 0 [],f.getD 1 []⟩,0)
def shiftR (f:List (List UInt8)):List UInt8 × Int:=if f.length≠1 then ([],5) else if (f.all setB)=false then ([],9) else (f.getD 0 [],0)
def ruleS (st:RdP) (n:Int) (f:List (List UInt8)):RdP × Int :=
 if (ruleR f).2≠0 then (st,(ruleR f).2) else
  (⟨⟨st.s.rules++[(ruleR f).1],st.s.zones,st.s.links,st.s.shifts⟩,⟨st.l.rules++[n],st.l.eras,st.l.links,st.l.shifts⟩,st.op⟩,if 2000<st.s.rules.length+1 then 7 else 0)
def eraS (st:RdP) (n:Int) (f:List (List UInt8)):RdP × Int :=
 if (eraR f).2≠0 then (st,(eraR f).2) else
  (⟨⟨st.s.rules,st.s.zones.set (st.s.zones.length-1) ⟨(st.s.zones.getD (st.s.zones.length-1) ⟨[],[]⟩).name,(st.s.zones.getD (st.s.zones.length-1) ⟨[],[]⟩).eras++[(eraR f).1]⟩,st.s.links,st.s.shifts⟩,
   ⟨st.l.rules,st.l.eras.set (st.s.zones.length-1) (st.l.eras.getD (st.s.zones.length-1) []++[n]),st.l.links,st.l.shifts⟩,(eraR f).1.til.is⟩,if 60<(st.s.zones.getD (st.s.zones.length-1) ⟨[],[]⟩).eras.length+1 then 7 else 0)
def RdP.zone (st:RdP) (a:List UInt8):RdP:=⟨⟨st.s.rules,st.s.zones++[⟨a,[]⟩],st.s.links,st.s.shifts⟩,⟨st.l.rules,st.l.eras++[[]],st.l.links,st.l.shifts⟩,st.op⟩
def zoneS (st:RdP) (n:Int):List (List UInt8)→RdP × Int
 | []=>(st,5)
 | a::f=>if zoneB a=false then (st,9) else if (eraS (st.zone a) n f).2≠0 then (st,(eraS (st.zone a) n f).2) else ((eraS (st.zone a) n f).1,if 500<st.s.zones.length+1 then 7 else 0)
def linkS (st:RdP) (n:Int) (f:List (List UInt8)):RdP × Int :=
 if (linkR f).2≠0 then (st,(linkR f).2) else
  (⟨⟨st.s.rules,st.s.zones,st.s.links++[(linkR f).1],st.s.shifts⟩,⟨st.l.rules,st.l.eras,st.l.links++[n],st.l.shifts⟩,st.op⟩,if 1000<st.s.links.length+1 then 7 else 0)
def shiftS (st:RdP) (n:Int) (f:List (List UInt8)):RdP × Int :=
 if (shiftR f).2≠0 then (st,(shiftR f).2) else
  (⟨⟨st.s.rules,st.s.zones,st.s.links,st.s.shifts++[(shiftR f).1]⟩,⟨st.l.rules,st.l.eras,st.l.links,st.l.shifts++[n]⟩,st.op⟩,if 2000<st.s.shifts.length+1 then 7 else 0)
def wordS (st:RdP) (n:Int) (a:List UInt8) (f:List (List UInt8)):RdP × Int :=
 if (wordR lineL 1 a).2≠0 then (st,(wordR lineL 1 a).2) else if (wordR lineL 1 a).1=1 then ruleS st n f else if (wordR lineL 1 a).1=2 then zoneS st n f else if (wordR lineL 1 a).1=3 then linkS st n f else shiftS st n f
def fieldsS (st:RdP) (n:Int):List (List UInt8)→RdP × Int
 | []=>(st,0)
 | a::f=>if st.op=true then eraS st n (a::f) else wordS st n a f
def lineS (st:RdP) (n:Int) (x:List UInt8):RdP × Int:=if (fieldsR x).2≠0 then (st,(fieldsR x).2) else fieldsS st n (fieldsR x).1
def readS:RdP→Int→List (List UInt8)→RdP × Int × Int
 | st,_,[]=>(st,0,0)
 | st,n,x::l=>if (lineS st n x).2≠0 then (st,n,(lineS st n x).2) else readS (lineS st n x).1 (n+1) l
def lastLn (l:LinesP):Int:=(l.eras.getLast?.getD []).getLast?.getD 0
def srcR (s:List UInt8):(SourceP × LinesP) × Int × Int :=
 if (nlR s).2.2≠0 then ((SourceP.none,LinesP.none),(nlR s).2)
 else if (readS RdP.none 1 (nlR s).1).2.2≠0 then ((SourceP.none,LinesP.none),(readS RdP.none 1 (nlR s).1).2)
 else if (readS RdP.none 1 (nlR s).1).1.op=true then ((SourceP.none,LinesP.none),lastLn (readS RdP.none 1 (nlR s).1).1.l,5)
 else (((readS RdP.none 1 (nlR s).1).1.s,(readS RdP.none 1 (nlR s).1).1.l),0,0)
structure RdOk (st:RdP):Prop where
 rules:st.s.rules.length=st.l.rules.length∧st.s.rules.length≤2000
 zones:st.s.zones.length=st.l.eras.length∧st.s.zones.length≤500
 links:st.s.links.length=st.l.links.length∧st.s.links.length≤1000
 shifts:st.s.shifts.length=st.l.shifts.length∧st.s.shifts.length≤2000
 op:st.op=true→st.s.zones≠[]
 eras:∀(i:Nat) z l,st.s.zones[i]? = some z→st.l.eras[i]? = some l→z.eras.length=l.length∧1≤l.length∧l.length≤60
theorem RdOk.none:RdOk RdP.none:=⟨by decide,by decide,by decide,by decide,(fun h=>by cases h),fun i z l h=>by simp [RdP.none,SourceP.none] at h⟩
theorem RdOk.rule {st:RdP} (h:RdOk st) {n:Int} {f:List (List UInt8)} (he:(ruleS st n f).2=0):RdOk (ruleS st n f).1:=by
 unfold ruleS at he ⊢
 split
 ·exact h
 ·rename_i hc
  rw [if_neg hc] at he;have h1:=h.rules;simp only at he
  split at he
  ·cases he
  ·exact ⟨⟨by simp;omega,by simp;omega⟩,h.zones,h.links,h.shifts,h.op,h.eras⟩
theorem RdOk.link {st:RdP} (h:RdOk st) {n:Int} {f:List (List UInt8)} (he:(linkS st n f).2=0):RdOk (linkS st n f).1:=by
 unfold linkS at he ⊢
 split
 ·exact h
 ·rename_i hc
  rw [if_neg hc] at he;have h1:=h.links;simp only at he
  split at he
  ·cases he
  ·exact ⟨h.rules,h.zones,⟨by simp;omega,by simp;omega⟩,h.shifts,h.op,h.eras⟩
theorem RdOk.shift {st:RdP} (h:RdOk st) {n:Int} {f:List (List UInt8)} (he:(shiftS st n f).2=0):RdOk (shiftS st n f).1:=by
 unfold shiftS at he ⊢
 split
 ·exact h
 ·rename_i hc
  rw [if_neg hc] at he;have h1:=h.shifts;simp only at he
  split at he
  ·cases he
  ·exact ⟨h.rules,h.zones,h.links,⟨by simp;omega,by simp;omega⟩,h.op,h.eras⟩
theorem RdOk.era {st:RdP} (h:RdOk st) (hz:st.s.zones≠[]) {n:Int} {f:List (List UInt8)} (he:(eraS st n f).2=0):RdOk (eraS st n f).1:=by
 unfold eraS at he ⊢
 split
 ·exact h
 ·rename_i hc
  rw [if_neg hc] at he;simp only at he
  split at he
  ·cases he
  ·rename_i h60
   have h1:=h.zones;have hk:st.s.zones.length≠0:=by simpa using hz
   refine ⟨h.rules,⟨by simp;omega,by simp;omega⟩,h.links,h.shifts,fun _=>by simp [hz],fun i z l hi hl=>?_⟩;simp only at hi hl;have hk1:st.s.zones.length-1<st.s.zones.length:=by omega
   have hk2:st.s.zones.length-1<st.l.eras.length:=by omega
   by_cases hik:i=st.s.zones.length-1
   ·subst hik
    rw [List.getElem?_set_self hk1] at hi;rw [List.getElem?_set_self hk2] at hl
    cases hi
    cases hl
    have hg:=h.eras _ _ _ (List.getElem?_eq_getElem hk1) (List.getElem?_eq_getElem hk2);simp only [List.getD_eq_getElem?_getD,List.getElem?_eq_getElem hk1,List.getElem?_eq_getElem hk2,Option.getD_some,List.length_append,List.length_singleton] at h60 ⊢
    omega
   ·rw [List.getElem?_set_ne (Ne.symm hik)] at hi hl
    exact h.eras i z l hi hl
theorem RdOk.zone {st:RdP} (h:RdOk st) {n:Int} {f:List (List UInt8)} (he:(zoneS st n f).2=0):RdOk (zoneS st n f).1:=by
 cases f with
 | nil=>cases he
 | cons a f =>
  simp only [zoneS] at he ⊢
  by_cases hb:zoneB a=false
  ·rw [if_pos hb] at he;cases he
  ·rw [if_neg hb] at he ⊢
   by_cases hc:(eraS (st.zone a) n f).2≠0
   ·rw [if_pos hc] at he;exact absurd he hc
   ·rw [if_neg hc] at he ⊢
    simp only at he ⊢
    have h500:st.s.zones.length+1≤500:=by
     split at he
     ·cases he
     ·omega
    clear he;unfold eraS at hc ⊢
    by_cases hr:(eraR f).2≠0
    ·rw [if_pos hr] at hc;exact absurd hr hc
    ·rw [if_neg hr]
     have h1:=h.zones;refine ⟨h.rules,⟨by simp [RdP.zone];omega,by simp [RdP.zone];omega⟩,h.links,h.shifts,fun _=>by simp [RdP.zone],fun i z l hi hl=>?_⟩;simp only [RdP.zone,List.length_append,List.length_singleton,Nat.add_sub_cancel] at hi hl
     by_cases hik:i=st.s.zones.length
     ·subst hik
      rw [List.getElem?_set_self (by simp)] at hi;rw [List.getElem?_set_self (by simp;omega)] at hl
      cases hi
      cases hl
      rw [h1.1]
      simp
      rw [←h1.1]
      simp
     ·rw [List.getElem?_set_ne (Ne.symm hik)] at hi hl
      have hlt:i<st.s.zones.length:=by
       have:=(List.getElem?_eq_some_iff.1 hi).1
       simp at this
       omega
      rw [List.getElem?_append_left hlt] at hi;rw [List.getElem?_append_left (by omega)] at hl;exact h.eras i z l hi hl
theorem RdOk.line {st:RdP} (h:RdOk st) {n:Int} {x:List UInt8} (he:(lineS st n x).2=0):RdOk (lineS st n x).1:=by
 unfold lineS at he ⊢
 split
 ·exact h
 ·rename_i hc
  rw [if_neg hc] at he;generalize (fieldsR x).1=f at *
  cases f with
  | nil=>exact h
  | cons a f =>
   simp only [fieldsS] at he ⊢
   by_cases ho:st.op=true
   ·rw [if_pos ho] at he ⊢
    exact h.era (h.op ho) he
   ·rw [if_neg ho] at he ⊢
    unfold wordS at he ⊢
    split
    ·exact h
    ·rename_i hw
     rw [if_neg hw] at he
     split
     ·rename_i h1;rw [if_pos h1] at he;exact h.rule he
     ·rename_i h1
      rw [if_neg h1] at he
      split
      ·rename_i h2;rw [if_pos h2] at he;exact h.zone he
      ·rename_i h2
       rw [if_neg h2] at he
       split
       ·rename_i h3;rw [if_pos h3] at he;exact h.link he
       ·rename_i h3;rw [if_neg h3] at he;exact h.shift he
def parts0 (b:Bool) (l:List UInt8):List (List UInt8):=if b=true∧l=[] then [] else nlParts (trimNl l)
theorem trimNl_none {a:List UInt8} (h:(10:UInt8) ∉ a):trimNl a=a:=by
 unfold trimNl;rw [if_neg];intro hh;exact h (List.mem_of_getLast? hh)
theorem trimNl_app (a b:List UInt8) (hb:b≠[]):trimNl (a++10::b)=a++10::trimNl b:=by
 have e1:(a++10::b).getLast? = b.getLast?:=by
  cases b with
  | nil=>exact absurd rfl hb
  | cons c b=>rw [List.getLast?_append,List.getLast?_cons_cons];cases h:(c::b).getLast? with
   | none=>simp at h
   | some x=>rfl
 have e2:(a++10::b).dropLast=a++10::b.dropLast:=by
  cases b with
  | nil=>exact absurd rfl hb
  | cons c b=>rw [List.dropLast_append_of_ne_nil (by simp),List.dropLast_cons_cons]
 unfold trimNl;rw [e1,e2]
 split<;>rfl
theorem parts0_cons (b:Bool) {cur t:List UInt8} (h:(10:UInt8) ∉ cur):parts0 b (cur++10::t)=cur::parts0 true t:=by
 unfold parts0;rw [if_neg (by simp)]
 by_cases ht:t=[]
 ·subst ht
  rw [if_pos ⟨rfl,rfl⟩];have:trimNl (cur++[10])=cur:=by unfold trimNl;simp
  rw [this,nlParts_one h]
 ·rw [if_neg (by simp [ht]),trimNl_app cur t ht,nlParts_app h]
theorem longAt_app (k:Nat) (a b:List (List UInt8)) (h:∀x ∈ a,¬300<x.length):longAt k (a++b)=longAt (k+a.length) b:=by
 induction a generalizing k with
 | nil=>rfl
 | cons x a ih =>
  rw [List.cons_append,longAt,if_neg (h x (List.mem_cons_self ..)),ih _ (fun y hy=>h y (List.mem_cons_of_mem _ hy))]
  congr 1
  simp
  omega
def nlCount (s:List UInt8):Nat:=s.count 10
theorem nlParts_len (s:List UInt8):(nlParts s).length=nlCount s+1:=by
 unfold nlCount
 induction s with
 | nil=>rfl
 | cons c t ih =>
  unfold nlParts
  by_cases hc:c=10
  ·subst hc;simp [ih]
  ·rw [if_neg hc,List.count_cons_of_ne hc]
   have:=nlParts_ne t
   cases hp:nlParts t with
   | nil=>exact absurd hp this
   | cons p q=>rw [hp] at ih;simpa using ih
theorem trimNl_count (s:List UInt8):nlCount (trimNl s)≤nlCount s:=by
 unfold trimNl nlCount
 split
 ·exact (List.dropLast_sublist s).count_le _
 ·exact Nat.le_refl _
theorem longAt_le:∀(l:List (List UInt8)) (k j:Nat),longAt k l=some j→k≤j∧j<k+l.length
 | [],k,j,h=>by cases h
 | x::l,k,j,h=>by
  unfold longAt at h
  split at h
  ·cases h;simp
  ·have:=longAt_le l (k+1) j h
   simp;omega
theorem nlR_len (s:List UInt8):(nlR s).1.length≤nlCount s+1:=by
 unfold nlR
 split
 ·simp
 ·split
  ·simp
  ·have h2:=nlParts_len (trimNl s)
   have h3:=trimNl_count s;simp only
   omega
def RdLn (m:Int) (st:RdP):Prop:=∀l ∈ st.l.eras,∀x ∈ l,1≤x∧x≤m
theorem RdLn.mono {m m':Int} {st:RdP} (h:RdLn m st) (hm:m≤m'):RdLn m' st:=fun l hl x hx=>⟨(h l hl x hx).1,by have:=(h l hl x hx).2;omega⟩
theorem RdLn.era {m n:Int} {st:RdP} (h:RdLn m st) (hn:1≤n∧n≤m) (f:List (List UInt8)):RdLn m (eraS st n f).1:=by
 unfold eraS
 split
 ·exact h
 ·intro l hl x hx
  simp only at hl
  rcases List.mem_or_eq_of_mem_set hl with hl|rfl
  ·exact h l hl x hx
  ·rcases List.mem_append.1 hx with hx|hx
   ·rw [List.getD_eq_getElem?_getD] at hx
    cases hg:st.l.eras[st.s.zones.length-1]? with
    | none=>rw [hg] at hx;simp at hx
    | some l0=>rw [hg] at hx;exact h l0 (List.mem_of_getElem? hg) x hx
   ·rw [List.mem_singleton.1 hx];exact hn
theorem RdLn.zone {m:Int} {st:RdP} (h:RdLn m st) (a:List UInt8):RdLn m (st.zone a):=fun l hl x hx=>by
 rcases List.mem_append.1 hl with hl|hl
 ·exact h l hl x hx
 ·rw [List.mem_singleton.1 hl] at hx;simp at hx
theorem RdLn.line {m n:Int} {st:RdP} (h:RdLn m st) (hn:1≤n∧n≤m) (x:List UInt8):RdLn m (lineS st n x).1:=by
 unfold lineS
 split
 ·exact h
 ·generalize (fieldsR x).1=f
  cases f with
  | nil=>exact h
  | cons a f =>
   simp only [fieldsS]
   split
   ·exact h.era hn _
   ·unfold wordS
    split
    ·exact h
    ·split
     ·unfold ruleS;split<;>exact h
     ·split
      ·cases f with
       | nil=>exact h
       | cons a f =>
        simp only [zoneS]
        split
        ·exact h
        ·split
         ·exact h
         ·exact (h.zone a).era hn f
      ·split
       ·unfold linkS;split<;>exact h
       ·unfold shiftS;split<;>exact h
theorem RdOk.last {st:RdP} (h:RdOk st) (ho:st.op=true):∃l,st.l.eras[st.l.eras.length-1]? = some l∧1≤l.length∧l[l.length-1]? = some (lastLn st.l):=by
 have h1:=h.op ho;have h2:=h.zones;have hk:st.s.zones.length≠0:=by simpa using h1
 have hk2:st.l.eras.length-1<st.l.eras.length:=by omega
 have hk3:st.l.eras.length-1<st.s.zones.length:=by omega
 have h3:=h.eras _ _ _ (List.getElem?_eq_getElem hk3) (List.getElem?_eq_getElem hk2);refine ⟨_,List.getElem?_eq_getElem hk2,h3.2.1,?_⟩;have e:st.l.eras.getLast? = some (st.l.eras[st.l.eras.length-1]):=by rw [List.getLast?_eq_getElem?,List.getElem?_eq_getElem hk2]
 have hl:(st.l.eras[st.l.eras.length-1]).length-1<(st.l.eras[st.l.eras.length-1]).length:=by omega
 unfold lastLn;rw [e,Option.getD_some,List.getLast?_eq_getElem?,List.getElem?_eq_getElem hl]
 rfl
end Go.Proofs.YtboagmbmmoomiaaGreatDoor
