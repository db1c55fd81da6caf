/-
  Numerals by strconv; offset.two, offset.Print: what the calls return.
  offset.Parse: the digits that its closure takes.
  offset.Parse: what the call returns.
  ruleline.year: numerals of one to four digits; what the call returns.
  clock.letters, clock.cut, clock.Parse, clock.Check, clock.Print: what each call returns.
  name.kinds, name.of, its closure, name.Set, name.Letter: what each call returns.
  word.Month, word.To, word.MonthText: what each call returns.
  Results: a struct in memory, and a slot.
  Plain facts that readers and printers of lines share: years, words, days, amounts, clocks, and lines cut at spaces.
  Rows of strings in memory.
-/
import Derived.Test.YtboagmbmmoomiaaGreatDoorDayAll
import Derived.Test.YtboagmbmmoomiaaGreatDoorShelf2
import Derived.Lib.ItoaMem
import Derived.Lib.SmallJoins
import Derived.Shelf.Strconv.ErrVarParseInt
import Derived.Lib.AtoiErrMem
import Derived.Deep.DeepCutAuto
import Derived.Deep.CutBlock
import Derived.Shelf.Strconv.ErrVarAll
import Derived.Shelf.Strconv.AtoiAll
import Derived.Handy
import Derived.Outline
import Derived.Deep.QuietTactic
import Derived.BigQuiet
import Derived.Deep.RegionHeld3
import Derived.Deep.MidRow
import Derived.Laws.OwnMore
import Derived.Deep.AppendLies
import Derived.OwnWalk
set_option linter.unusedVariables false
set_option maxRecDepth 100000
set_option maxHeartbeats 4000000
namespace Go.Proofs.YtboagmbmmoomiaaGreatDoor
open Go.Lib (hid)
open Go.RowKit
def Pows (w:World):Prop:=Lib.TabIs Tryz.prog w "internal/strconv.uint64pow10" .u64 Lib.pow10Tab
theorem gPows:Tryz.prog.globalNamed "internal/strconv.uint64pow10" = some 8:=by kernel_rfl
theorem Pows.below {w w':World} (h:Pows w) (hb:Below w.heap.size w w'):Pows w':=Joins.var_stays gPows h hb (Nat.le_refl _)
theorem below_laid (w:World) (q:Nat) (os:Array Obj):Below w.heap.size w (Sort.grow (w.drewN q) os) :=
 ⟨rfl,rfl,rfl,by simp [Sort.grow],fun i hi=>by
  show ((w.drewN q).heap++os)[i]? = _
  rw [Array.getElem?_append_left (by exact hi)]
  rfl⟩
theorem fmt_any (n:Nat) (w:World) (hP:Pows w) (h:n<1000000000) :
 Calls Tryz.prog 64 #[.int .i64 (n:Int),.int .i64 10] w fun e w'=>e=.returned (.string ⟨(Lib.decDigits n).toArray⟩)∧Below w.heap.size w w':=by
 refine (Any.strconv_FormatInt_10 Tryz.laysM173 (n:Int) (by omega) (by omega) w hP).mono ?_;rintro e w' ⟨h1,k,os,rfl⟩;rw [Lib.itoa_nonneg] at h1;exact ⟨h1,below_laid _ _ _⟩
theorem itoa_any (n:Int) (w:World) (hP:Pows w) (h0 : -9223372036854775808≤n) (h1:n≤9223372036854775807) :
 Calls Tryz.prog 35 #[.int .i64 n] w fun e w'=>e=.returned (.string ⟨(Lib.itoa n).toArray⟩)∧Below w.heap.size w w':=by
 refine (Any.strconv_Itoa Tryz.laysM171 n h0 h1 w hP).mono ?_;rintro e w' ⟨h1,k,os,rfl⟩;exact ⟨h1,below_laid _ _ _⟩
def twoT (n:Nat):List UInt8:=if n<10 then 48::Lib.decDigits n else Lib.decDigits n
def offT (x:Nat):List UInt8:=Lib.decDigits (x / 3600)++[58]++twoT (x / 60 % 60)++(if x % 60≠0 then [58]++twoT (x % 60) else [])
def offPrintR (x:Int):List UInt8 × Int:=if x < -604799∨604799<x then ([],3) else ((if x<0 then [45] else [])++offT x.natAbs,0)
theorem dig_len (n:Nat) (h:n<1000):(Lib.decDigits n).length≤3:=by
 have h':∀n:Fin 1000,(Lib.decDigits n.val).length≤3:=by decide +kernel
 exact h' ⟨n,h⟩
theorem twoT_len (n:Nat) (h:n<100):(twoT n).length≤2:=by
 have h':∀n:Fin 100,(twoT n.val).length≤2:=by decide +kernel
 exact h' ⟨n,h⟩
theorem two_any (n:Nat) (w:World) (h:n<100) (hP:Pows w) :
 Calls Tryz.prog 65 #[.int .i64 (n:Int)] w fun e w'=>e=.returned (.string ⟨(twoT n).toArray⟩)∧Below w.heap.size w w':=by
 have hl:=dig_len n (by omega);have HF:=hid (fmt_any n w hP (by omega))
 by_cases h10:n<10
 ·have HT:=hid (show twoT n=48::Lib.decDigits n from if_pos h10)
  generalize Lib.decDigits n=dl at *;have hi:(n:Int)<10:=by omega
  go_enter Tryz.func65,Tryz.ntmps65;go_wp2_with fail
  refine HF.out.mono ?_;rintro e w1 ⟨rfl,hb1⟩;go_wp2_with fail
  go_ret
  refine ⟨?_,hb1⟩;rw [HT.out]
  simp [ba_append]
 ·have HT:=hid (show twoT n=Lib.decDigits n from if_neg h10)
  generalize Lib.decDigits n=dl at *;have hi:¬(n:Int)<10:=by omega
  go_enter Tryz.func65,Tryz.ntmps65;go_wp2_with fail
  refine HF.out.mono ?_;rintro e w1 ⟨rfl,hb1⟩;go_wp2_with fail
  go_ret
  refine ⟨?_,hb1⟩;rw [HT.out];rfl
theorem offPrint_out (x:Int) (w:World) (hr:x < -604799∨604799<x) :
 Calls Tryz.prog 31 #[.int .i64 x] w fun e w'=>e=.returned (.tuple #[.string ⟨#[]⟩,.int .i64 3])∧Below w.heap.size w w':=by
 rcases hr with hr|hr
 all_goals
  go_enter Tryz.func31,Tryz.ntmps31;go_wp2_with fail
  go_ret2
  exact ⟨rfl,Below.refl _ _⟩
theorem offPrint_in (n:Nat) (x:Int) (sg:List UInt8) (w:World) (hP:Pows w) (h1:n≤604799) (hx:(x=(n:Int)∧sg=[])∨(x = -(n:Int)∧0<n∧sg=[45])) :
 Calls Tryz.prog 31 #[.int .i64 x] w fun e w'=>e=.returned (.tuple #[.string ⟨(sg++offT n).toArray⟩,.int .i64 0])∧Below w.heap.size w w':=by
 have HF:=hid (show ∀W (y:Int),Below w.heap.size w W→y=((n / 3600:Nat):Int)→Calls Tryz.prog 64 #[.int .i64 y,.int .i64 10] W fun e w'=>e=.returned (.string ⟨(Lib.decDigits (n / 3600)).toArray⟩)∧Below W.heap.size W w' from fun W y hW hy=>hy ▸ fmt_any _ W (hP.below hW) (by omega));have HM:=hid (show ∀W (y:Int),Below w.heap.size w W→y=((n / 60 % 60:Nat):Int)→Calls Tryz.prog 65 #[.int .i64 y] W fun e w'=>e=.returned (.string ⟨(twoT (n / 60 % 60)).toArray⟩)∧Below W.heap.size W w' from fun W y hW hy=>hy ▸ two_any _ W (by omega) (hP.below hW));have HS:=hid (show ∀W (y:Int),Below w.heap.size w W→y=((n % 60:Nat):Int)→Calls Tryz.prog 65 #[.int .i64 y] W fun e w'=>e=.returned (.string ⟨(twoT (n % 60)).toArray⟩)∧Below W.heap.size W w' from fun W y hW hy=>hy ▸ two_any _ W (by omega) (hP.below hW));have hl1:=dig_len (n / 3600) (by omega);have hl2:=twoT_len (n / 60 % 60) (by omega);have hl3:=twoT_len (n % 60) (by omega);have HT:=hid (show offT n=Lib.decDigits (n / 3600)++[58]++twoT (n / 60 % 60)++(if n % 60≠0 then [58]++twoT (n % 60) else []) from rfl);clear hP;generalize Lib.decDigits (n / 3600)=d1 at *;generalize twoT (n / 60 % 60)=d2 at *;generalize twoT (n % 60)=d3 at *
 rcases hx with ⟨rfl,rfl⟩|⟨rfl,h0,rfl⟩
 all_goals
  have hb0:Below w.heap.size w w:=Below.refl _ _
  go_enter Tryz.func31,Tryz.ntmps31;go_wp2_with fail
  refine (HF.out _ _ hb0 (by omega)).mono ?_;rintro e w1 ⟨rfl,hb1⟩;go_wp2_with fail
  refine (HM.out _ _ hb1 (by omega)).mono ?_;rintro e w2 ⟨rfl,hb2⟩;have hb3:=hb1.trans (hb2.mono hb1.size);clear hb1 hb2 HF HM
  by_cases hs:n % 60=0
  ·have HT2:=hid (show offT n=d1++[58]++d2 by rw [HT.out,if_neg (by omega),List.append_nil])
   have hs2:(n:Int) % 60=0:=by omega
   clear HS HT;go_wp2_with fail
   go_ret2
   refine ⟨?_,hb3⟩;rw [HT2.out]
   simp [ba_append]
  ·have HT2:=hid (show offT n=d1++[58]++d2++([58]++d3) by rw [HT.out,if_pos (by omega)])
   have hs2:¬(n:Int) % 60=0:=by omega
   clear HT;go_wp2_with fail
   refine (HS.out _ _ hb3 (by omega)).mono ?_;rintro e w4 ⟨rfl,hb4⟩;have hb5:=hb3.trans (hb4.mono hb3.size);clear hb3 hb4 HS;go_wp2_with fail
   go_ret2
   refine ⟨?_,hb5⟩;rw [HT2.out]
   simp [ba_append]
theorem offPrint_any (x:Int) (w:World) (hP:Pows w) :
 Calls Tryz.prog 31 #[.int .i64 x] w fun e w'=>e=.returned (.tuple #[.string ⟨(offPrintR x).1.toArray⟩,.int .i64 (offPrintR x).2])∧Below w.heap.size w w':=by
 by_cases hr:x < -604799∨604799<x
 ·rw [show offPrintR x=([],3) from if_pos hr]
  exact offPrint_out x w hr
 ·rw [show offPrintR x=((if x<0 then [45] else [])++offT x.natAbs,0) from if_neg hr]
  by_cases hn:x<0
  ·rw [if_pos hn]
   exact offPrint_in x.natAbs x [45] w hP (by omega) (.inr ⟨by omega,by omega,rfl⟩)
  ·rw [if_neg hn]
   exact offPrint_in x.natAbs x [] w hP (by omega) (.inl ⟨by omega,rfl⟩)
def digLen:Nat→List UInt8→Nat
 | 0,_=>0
 | _,[]=>0
 | n+1,a::l=>if 48≤a.toNat∧a.toNat≤57 then digLen n l+1 else 0
theorem digLen_le:∀(n:Nat) (l:List UInt8),digLen n l≤n∧digLen n l≤l.length
 | 0,_=>by simp [digLen]
 | _+1,[]=>by simp [digLen]
 | n+1,a::l=>by
  have:=digLen_le n l;simp only [digLen,List.length_cons];split<;>omega
theorem digLen_in:∀(n:Nat) (l:List UInt8) (k:Nat),k<digLen n l→∃a,l[k]? = some a∧48≤a.toNat∧a.toNat≤57
 | 0,_,k,h=>by simp [digLen] at h
 | _+1,[],k,h=>by simp [digLen] at h
 | n+1,a::l,k,h=>by
  simp only [digLen] at h
  split at h
  ·cases k with
   | zero=>exact ⟨a,rfl,by assumption⟩
   | succ k=>exact digLen_in n l k (by omega)
  ·omega
theorem digLen_at:∀(n:Nat) (l:List UInt8),digLen n l=n∨digLen n l=l.length∨∃a,l[digLen n l]? = some a∧¬(48≤a.toNat∧a.toNat≤57)
 | 0,_=>by simp [digLen]
 | _+1,[]=>by simp [digLen]
 | n+1,a::l=>by
  simp only [digLen]
  split
  ·rcases digLen_at n l with h|h|⟨b,h1,h2⟩
   ·exact .inl (by omega)
   ·exact .inr (.inl (by simp [h]))
   ·exact .inr (.inr ⟨b,by simpa using h1,h2⟩)
  ·exact .inr (.inr ⟨a,rfl,by assumption⟩)
theorem get_of {s:ByteArray} {k:Nat} {a:UInt8} (h:s.data.toList[k]? = some a):k<s.size∧∀hk,(s[k]'hk)=a:=by
 have hk:=(List.getElem?_eq_some_iff.1 h).1;refine ⟨by simpa using hk,fun hk'=>?_⟩;have:=(List.getElem?_eq_some_iff.1 h).2;rw [←this];rfl
theorem digits_any (n:Nat) (s:ByteArray) (g:Nat) (w:World) (hn:n≤3) (hs:s.size≤1048576) (hc:w.cell? ⟨g,0,none⟩=some (.string s)) (hf:w.frozen? ⟨g,0,none⟩=false) :
 Calls Tryz.prog 184 #[.int .i64 (n:Int),.pointer (some ⟨g,0,none⟩)] w fun e w' =>
  e=.returned (.string (s.extract 0 (digLen n s.data.toList)))∧w.setCell ⟨g,0,none⟩ (.string (s.extract (digLen n s.data.toList) s.size))=w':=by
 have HL:=digLen_le n s.data.toList;have hsz:s.data.toList.length=s.size:=by simp
 rw [hsz] at HL;have HI:=hid (digLen_in n s.data.toList);have HA:=hid (digLen_at n s.data.toList);generalize digLen n s.data.toList=K at *
 go_enter Tryz.func184,Tryz.ntmps184;go_wp2_with fail
 go_loop [4] (fun i=>∃k:Nat,k≤K∧i=.int .i64 (k:Int)) (fun i=>K-(intOf i).toNat)
 case atStart=>exact ⟨0,Nat.zero_le _,rfl⟩
 case round =>
  obtain ⟨k,hk,rfl⟩:=hrel
  by_cases hlt:k<K
  ·obtain ⟨a,h1,h2,h3⟩:=HI.out k hlt
   obtain ⟨h4,h5⟩:=get_of h1;have g0:∀hk,(s[k]'hk).toNat=a.toNat:=fun hk=>by rw [h5]
   have hk1:(k:Int)<(s.size:Int):=by omega
   have hk2:(k:Int)<(n:Int):=by omega
   clear h1 h5;go_wp2_with fail
   go_round
   case rel=>exact ⟨k+1,by omega,by go_num⟩
   case measure=>simp [intOf];omega
  ·obtain rfl:k=K:=by omega
   by_cases hk1:k=s.size
   ·have hd:¬((k:Int)<(s.size:Int)):=by omega
    go_wp2_with fail
    go_ret
    exact ⟨rfl,rfl⟩
   ·have hd:(k:Int)<(s.size:Int):=by omega
    by_cases hk2:k=n
    ·have hd2:¬((k:Int)<(n:Int)):=by omega
     go_wp2_with fail
     go_ret
     exact ⟨rfl,rfl⟩
    ·have hd2:(k:Int)<(n:Int):=by omega
     rcases HA.out with h|h|⟨a,h1,h2⟩
     ·exact absurd h hk2
     ·exact absurd (h.trans hsz) hk1
     ·obtain ⟨h4,h5⟩:=get_of h1
      have g0:∀hk,(s[k]'hk).toNat=a.toNat:=fun hk=>by rw [h5]
      clear h1 h5
      by_cases h48:48≤a.toNat
      ·have h57:¬a.toNat≤57:=fun h=>h2 ⟨h48,h⟩
       go_wp2_with fail
       go_ret
       exact ⟨rfl,rfl⟩
      ·go_wp2_with fail
       go_ret
       exact ⟨rfl,rfl⟩
def valD (l:List UInt8):Nat:=l.foldl (fun a c=>a*10+(c.toNat-48)) 0
def allD (l:List UInt8):Prop:=∀a ∈ l,48≤a.toNat∧a.toNat≤57
theorem uintM_ok (M:Nat) (hM:1000000≤M):∀(l:List UInt8) (acc:Nat),allD l→(acc+1)*10 ^ l.length≤1000000→Lib.parseUintM M acc l=.ok (l.foldl (fun a c=>a*10+(c.toNat-48)) acc)
 | [],acc,_,_=>rfl
 | a::l,acc,hd,hb=>by
  have ha:=hd a (by simp)
  have h1:(acc*10+(a.toNat-48)+1)*10 ^ l.length≤1000000:=by
   refine Nat.le_trans ?_ hb;rw [List.length_cons,Nat.pow_succ,←Nat.mul_assoc,Nat.mul_right_comm];exact Nat.mul_le_mul_right _ (by omega)
  have h2:acc*10+(a.toNat-48)+1≤1000000:=Nat.le_trans (Nat.le_mul_of_pos_right _ (Nat.pow_pos (by decide))) h1;rw [Lib.parseUintM,if_pos ha,if_neg (by omega),if_neg (by omega),List.foldl_cons];exact uintM_ok M hM l _ (fun x hx=>hd x (by simp [hx])) h1
theorem fold_lt:∀(l:List UInt8) (acc:Nat),allD l→l.foldl (fun a c=>a*10+(c.toNat-48)) acc<(acc+1)*10 ^ l.length
 | [],acc,_=>by simp
 | a::l,acc,hd=>by
  have ha:=hd a (by simp);refine Nat.lt_of_lt_of_le (fold_lt l _ (fun x hx=>hd x (by simp [hx]))) ?_;rw [List.length_cons,Nat.pow_succ,←Nat.mul_assoc,Nat.mul_right_comm];exact Nat.mul_le_mul_right _ (by show acc*10+(a.toNat-48)+1≤_;omega)
theorem valD_lt (l:List UInt8) (hd:allD l):valD l<10 ^ l.length:=by
 have:=fold_lt l 0 hd
 simpa [valD] using this
theorem pint_ok (l:List UInt8) (h0:l≠[]) (h3:l.length≤3) (hd:allD l):Lib.parseIntB 64 l=.ok (valD l:Int):=by
 have hp:10 ^ l.length≤1000:=Nat.le_trans (Nat.pow_le_pow_right (by decide) h3) (by decide);have hv:=valD_lt l hd
 have hU:Lib.parseUintB 64 l=.ok (valD l):=by
  rw [Lib.parseUintB,if_neg h0];exact uintM_ok _ (by decide) l 0 hd (by omega)
 match l with
 | []=>exact absurd rfl h0
 | a::r =>
  have ha:=hd a (by simp);simp only [Lib.parseIntB];rw [if_neg (by omega),hU];simp only;rw [if_neg (by omega),if_neg (by omega),if_neg (by omega)]
def ErrSyn (w:World):Prop:=∃tp p,w.var? Tryz.prog "strconv.ErrSyntax" = some #[.iface tp p]
theorem gErrSyn:Tryz.prog.globalNamed "strconv.ErrSyntax" = some 16:=by kernel_rfl
theorem ErrSyn.below {w w':World} (h:ErrSyn w) (hb:Below w.heap.size w w'):ErrSyn w':=by
 obtain ⟨tp,p,h⟩:=h;exact ⟨tp,p,Joins.var_stays gErrSyn h hb (Nat.le_refl _)⟩
theorem pint_any (s:ByteArray) (w:World) (h0:s.data.toList≠[]) (h3:s.data.toList.length≤3) (hd:allD s.data.toList) :
 Calls Tryz.prog 185 #[.string s,.int .i64 10,.int .i64 64] w fun e w'=>e=.returned (.tuple #[.int .i64 (valD s.data.toList:Int),.nilIface])∧Below w.heap.size w w':=by
 refine (Any.strconv_ParseInt_10_at64_ok Tryz.laysC174 s (by simp at h3;omega) _ (pint_ok _ h0 h3 hd) w).mono ?_;rintro e w' ⟨h1,h2⟩;refine ⟨h1,?_⟩
 rcases h2 with rfl|⟨t,rfl⟩
 ·exact Below.refl _ _
 ·exact Lib.bytesWorld_below _ _ _
theorem pint_none (w:World) (hE:ErrSyn w) :
 Calls Tryz.prog 185 #[.string ⟨#[]⟩,.int .i64 10,.int .i64 64] w fun e w'=>(∃t p,e=.returned (.tuple #[.int .i64 0,.iface t p]))∧Below w.heap.size w w':=by
 obtain ⟨tp,p,hv⟩:=hE;refine (Any.strconv_ParseInt_10_at64_syntax_var Tryz.laysC174 ⟨#[]⟩ (by decide) rfl tp p w hv).mono ?_;rintro e w' ⟨N,h1,_,_,h2⟩;exact ⟨⟨_,_,h1⟩,h2⟩
def hoursR (l:List UInt8):Option (Nat × List UInt8) :=
 let k:=digLen 3 l
 if k=0∨(1<k∧l.head? = some 48) then none else some (valD (l.take k),l.drop k)
def partR (l:List UInt8):Option (Nat × List UInt8) :=
 match l with
 | []=>none
 | c::r=>if c=58∧digLen 2 r=2∧valD (r.take 2)≤59 then some (valD (r.take 2),r.drop 2) else none
def stepR (k:Nat) (x:List UInt8 × Nat × Nat × Nat):Option (List UInt8 × Nat × Nat × Nat) :=
 if k=0 then (hoursR x.1).map fun y=>(y.2,y.1,x.2.2.1,x.2.2.2)
 else if x.1=[] then some x
 else if k=1 then (partR x.1).map fun y=>(y.2,x.2.1,y.1,x.2.2.2)
 else (partR x.1).map fun y=>(y.2,x.2.1,x.2.2.1,y.1)
def stR (l:List UInt8):Nat→Option (List UInt8 × Nat × Nat × Nat)
 | 0=>some (l,0,0,0)
 | k+1=>(stR l k).bind (stepR k)
def formR (l:List UInt8):Option Nat:=(stR l 3).bind fun (r,h,m,s)=>if r=[] then some (3600*h+60*m+s) else none
def offParseR (l:List UInt8):Int × Int :=
 let minus:=l.head? = some 45
 match formR (if minus then l.tail else l) with
 | none=>(0,5)
 | some x=>if minus∧x=0 then (0,5) else if 604799<x then (0,3) else (if minus then -(x:Int) else x,0)
structure Units (w:World):Prop where
 u0:w.cell? ⟨10,0,none⟩=some (.int .i64 3600)
 u1:w.cell? ⟨10,1,none⟩=some (.int .i64 60)
 u2:w.cell? ⟨10,2,none⟩=some (.int .i64 1)
theorem Units.below {w w':World} (h:Units w) (hb:Below w.heap.size w w'):Units w':=by
 have k:∀ {i:Nat} {v:Value},w.cell? ⟨10,i,none⟩=some v→w'.cell? ⟨10,i,none⟩=some v:=fun hc=>(hb.cell (block_lt_of_cell hc)).trans hc
 exact ⟨k h.u0,k h.u1,k h.u2⟩
def bare (s:ByteArray):ByteArray:=if s.data.toList.head? = some 45 then s.extract 1 s.size else s
theorem head_at {s:ByteArray} (h:s.size≠0):∃a,s.data.toList.head? = some a∧∀h,(s[0]'h)=a:=by
 obtain ⟨⟨l⟩⟩:=s
 match l with
 | []=>exact absurd rfl h
 | a::l=>exact ⟨a,rfl,fun _=>rfl⟩
theorem beq_byte (a:UInt8):((a.toNat:Int)==45)=decide (some a=some 45):=by
 have h:∀n:Fin 256,(((UInt8.ofNat n.val).toNat:Int)==45)=decide (some (UInt8.ofNat n.val)=some 45):=by decide +kernel
 have:=h ⟨a.toNat,a.toNat_lt⟩
 simpa using this
def endR (mn:Bool):Option Nat→Int × Int
 | none=>(0,5)
 | some x=>if mn=true∧x=0 then (0,5) else if 604799<x then (0,3) else (if mn=true then -(x:Int) else x,0)
theorem bare_le (s:ByteArray) (h:s.size≤1048576):(bare s).size≤1048576:=by
 unfold bare;split
 ·exact size_part s _ _ _ h
 ·exact h
theorem endR_of (s:ByteArray) (mn:Bool) (h:decide (s.data.toList.head? = some 45)=mn):offParseR s.data.toList=endR mn (formR (bare s).data.toList):=by
 cases mn with
 | true =>
  have hm:=of_decide_eq_true h;rw [bare,if_pos hm,list_from];simp only [offParseR,hm,if_true,true_and,←List.drop_one]
  cases formR (s.data.toList.drop 1)<;>simp [endR]
 | false =>
  have hm:=of_decide_eq_false h;rw [bare,if_neg hm];simp only [offParseR,hm,if_false,false_and]
  cases formR s.data.toList<;>simp [endR]
theorem st_next {l:List UInt8} {k:Nat} {x x':List UInt8 × Nat × Nat × Nat} (h:stR l k=some x) (h':stepR k x=some x'):stR l (k+1)=some x':=by
 rw [stR,h];exact h'
theorem form_none {l:List UInt8} {k:Nat} {x:List UInt8 × Nat × Nat × Nat} (hk:k<3) (h:stR l k=some x) (h':stepR k x=none):formR l=none:=by
 have h1:stR l (k+1)=none:=by rw [stR,h];exact h'
 have h2:∀j,stR l (k+1+j)=none:=fun j=>by
  induction j with
  | zero=>exact h1
  | succ j ih=>rw [←Nat.add_assoc,stR,ih];rfl
 have h3:=h2 (2-k);rw [show k+1+(2-k)=3 by omega] at h3;rw [formR,h3];rfl
theorem st_stay {l:List UInt8} {k:Nat} {y:Nat × Nat × Nat} (hk:k≤3) (h0:k≠0) (h:stR l k=some ([],y)):stR l 3=some ([],y):=by
 have h2:∀j,stR l (k+j)=some ([],y):=fun j=>by
  induction j with
  | zero=>exact h
  | succ j ih=>rw [←Nat.add_assoc,stR,ih];simp [stepR];omega
 have h3:=h2 (3-k);rwa [show k+(3-k)=3 by omega] at h3
theorem dig_take (n:Nat) (l:List UInt8):allD (l.take (digLen n l)):=fun a ha=>by
 obtain ⟨k,hk,rfl⟩:=List.mem_iff_getElem.1 ha
 simp at hk
 obtain ⟨b,h1,h2⟩:=digLen_in n l k (by omega);rw [List.getElem_take];rw [List.getElem?_eq_getElem (by omega)] at h1;rw [Option.some.inj h1];exact h2
theorem dig_part (n:Nat) (s:ByteArray):allD (s.extract 0 (digLen n s.data.toList)).data.toList∧(s.extract 0 (digLen n s.data.toList)).data.toList.length=digLen n s.data.toList:=by
 rw [list_upto];have:=digLen_le n s.data.toList;exact ⟨dig_take n _,by rw [List.length_take];omega⟩
theorem dig_size (n:Nat) (s:ByteArray):(s.extract 0 (digLen n s.data.toList)).size=digLen n s.data.toList:=by
 have:=(dig_part n s).2;rwa [Array.length_toList] at this
theorem hours_step (q:ByteArray) (K x y z:Nat) (hK:digLen 3 q.data.toList=K):stepR 0 (q.data.toList,x,y,z)=if K=0∨(1<K∧q.data.toList.head? = some 48) then none else some ((q.extract K q.size).data.toList,valD (q.extract 0 K).data.toList,y,z):=by
 simp only [stepR,if_true,hoursR,hK];rw [list_upto,list_from]
 split<;>simp
theorem part_none (s:ByteArray):s.extract 0 0=⟨#[]⟩:=by
 apply ByteArray.ext
 simp
theorem empty_of {s:ByteArray} (h:s.size=0):s=⟨#[]⟩:=by
 obtain ⟨⟨l⟩⟩:=s
 match l with
 | []=>rfl
 | a::l=>exact absurd (show (a::l).length=0 from h) (by simp)
theorem list_empty {s:ByteArray} (h:s.size≠0):s.toList.isEmpty=false:=by
 rw [Lib.toList_data];obtain ⟨⟨l⟩⟩:=s
 match l with
 | []=>exact absurd rfl h
 | a::l=>rfl
def upd (k x y z n:Nat):Nat × Nat × Nat:=if k=1 then (x,n,z) else (x,y,n)
theorem part_step (k:Nat) (hk:k≠0) (l:List UInt8) (hl:l≠[]) (x y z:Nat):stepR k (l,x,y,z)=(partR l).map fun p=>(p.2,upd k x y z p.1):=by
 simp only [stepR,hk,hl,if_false,upd]
 by_cases h1:k=1<;>simp [h1]
theorem part_is (q:ByteArray) (a:UInt8) (ha:q.data.toList.head? = some a):partR q.data.toList=if a=58∧digLen 2 (q.extract 1 q.size).data.toList=2∧valD ((q.extract 1 q.size).extract 0 2).data.toList≤59 then some (valD ((q.extract 1 q.size).extract 0 2).data.toList,((q.extract 1 q.size).extract 2 (q.extract 1 q.size).size).data.toList) else none:=by
 have h1:(q.extract 1 q.size).data.toList=q.data.toList.drop 1:=list_from q 1;have h2:((q.extract 1 q.size).extract 0 2).data.toList=(q.data.toList.drop 1).take 2:=by rw [list_upto,h1]
 have h3:((q.extract 1 q.size).extract 2 (q.extract 1 q.size).size).data.toList=(q.data.toList.drop 1).drop 2:=by rw [list_from,h1]
 rw [h1,h2,h3];clear h1 h2 h3;generalize q.data.toList=L at *
 match L,ha with
 | b::l,ha =>
  obtain rfl:b=a:=Option.some.inj ha
  rfl
theorem upd_set (k x y z n:Nat) (hk:k=1∨k=2):(#[.int .i64 (x:Int),.int .i64 (y:Int),.int .i64 (z:Int)]:Array Value).setIfInBounds k (.int .i64 (n:Int))=#[.int .i64 ((upd k x y z n).1:Int),.int .i64 ((upd k x y z n).2.1:Int),.int .i64 ((upd k x y z n).2.2:Int)]:=by
 rcases hk with rfl|rfl<;>rfl
theorem upd_le {k x y z n:Nat} (hx:x≤999) (hy:y≤59) (hz:z≤59) (hn:n≤59):(upd k x y z n).1≤999∧(upd k x y z n).2.1≤59∧(upd k x y z n).2.2≤59:=by
 unfold upd;split<;>simp<;>omega
theorem ret2i {a b c d:Int} (h1:a=b) (h2:c=d):Ending.returned (.tuple #[.int .i64 a,.int .i64 c])=.returned (.tuple #[.int .i64 b,.int .i64 d]):=by rw [h1,h2]
theorem offParse_any (s:ByteArray) (w:World) (hs:s.size≤1048576) (hU:Units w) (hE:ErrSyn w) :
 Calls Tryz.prog 156 #[.string s] w fun e w'=>e=.returned (.tuple #[.int .i64 (offParseR s.data.toList).1,.int .i64 (offParseR s.data.toList).2])∧Below w.heap.size w w':=by
 obtain ⟨R,hR⟩:∃R,offParseR s.data.toList=R:=⟨_,rfl⟩;rw [hR];have HR0:=hid hR;clear hR;obtain ⟨mn,hmn⟩:∃mn:Bool,decide (s.data.toList.head? = some 45)=mn:=⟨_,rfl⟩;have HMN:=hid hmn;clear hmn
 go_enter Tryz.func156,Tryz.ntmps156
 go_upto_region 2 with fail
 go_cut [4,5] (fun s4 s5 wx=>s4=.pointer (some ⟨w.heap.size,0,none⟩)∧s5=.bool mn∧Blk wx w.heap.size 9 #[.string s]∧Below w.heap.size w wx)
 case first =>
  by_cases h0:s.size=0
  ·obtain rfl:=empty_of h0
   go_wp2_with fail
   go_meet
   exact ⟨rfl,by rw [←HMN.out];rfl,Blk.new' _ _ _ rfl,(Below.refl _ _).alloc (Nat.le_refl _) _⟩
  ·obtain ⟨a,ha,hg⟩:=head_at h0
   have hne:=list_empty h0;have g0:∀h,(s[0]'h).toNat=a.toNat:=fun h=>by rw [hg]
   have HA:=hid ha;clear hg ha;go_wp2_with fail
   go_meet
   refine ⟨rfl,?_,Blk.new' _ _ _ rfl,(Below.refl _ _).alloc (Nat.le_refl _) _⟩;rw [←HMN.out,HA.out,beq_byte]
 case rest =>
  obtain ⟨rfl,rfl,hB,hb⟩:=hcut;have hc:=hB.cell_ (i:=0) rfl;have hf:=hB.frozen 0
  go_upto_if 24 with fail
  go_cut [4,5] (fun s4 s5 wx=>s4=.pointer (some ⟨w.heap.size,0,none⟩)∧s5=.bool mn∧Blk wx w.heap.size 9 #[.string (bare s)]∧Below w.heap.size w wx)
  case first =>
   cases mn with
   | true =>
    have hm:=of_decide_eq_true HMN.out
    have h1:1≤s.size:=by
     rcases Nat.eq_zero_or_pos s.size with h|h
     ·rw [empty_of h] at hm;cases hm
     ·exact h
    have HS:=hid (show bare s=s.extract 1 s.size from if_pos hm);have HB:=hid (And.intro hB hb);clear hm hB hb;go_wp2_with fail
    go_meet
    refine ⟨rfl,rfl,?_,HB.out.2.setCell (Nat.le_refl _) _⟩;rw [HS.out];exact HB.out.1.set_ 0 _
   | false =>
    have HS:=hid (show bare s=s from if_neg (of_decide_eq_false HMN.out));go_wp2_with fail
    go_meet
    exact ⟨rfl,rfl,by rw [HS.out];exact hB,hb⟩
  case rest =>
   obtain ⟨rfl,rfl,hB,hb⟩:=hcut;have hsr:(bare s).size≤1048576:=bare_le s hs;have HR:=hid (show R=endR mn (formR (bare s).data.toList) from HR0.out.symm.trans (endR_of s mn HMN.out));clear HMN hs HR0;generalize bare s=r at *;have hA:w.heap.size<wc.heap.size:=hB.lt;obtain ⟨wo,rfl⟩:∃wo:World,wo=wc:=⟨_,rfl⟩
   go_upto_block 0 with fail
   go_cut [4,5,7] (fun s4 s5 s7 wx=>s4=.pointer (some ⟨w.heap.size,0,none⟩)∧s5=.bool mn∧s7=.pointer (some ⟨wo.heap.size,0,none⟩)∧∃(q:ByteArray) (x y z:Nat),Aside (stR r.data.toList 3=some (q.data.toList,x,y,z))∧Blk wx w.heap.size 9 #[.string q]∧Blk wx wo.heap.size 271 #[.int .i64 (x:Int),.int .i64 (y:Int),.int .i64 (z:Int)]∧Below w.heap.size w wx∧x≤999∧y≤59∧z≤59)
   case first =>
    go_wp2_with fail
    go_loopw [28] (fun i wr=>∃(k:Nat) (q:ByteArray) (x y z:Nat),k≤3∧i=.int .i64 (k:Int)∧q.size≤1048576∧Aside (stR r.data.toList k=some (q.data.toList,x,y,z))∧Blk wr w.heap.size 9 #[.string q]∧Blk wr wo.heap.size 271 #[.int .i64 (x:Int),.int .i64 (y:Int),.int .i64 (z:Int)]∧Below w.heap.size w wr∧x≤999∧y≤59∧z≤59) (fun i _=>3-(intOf i).toNat)
    case atStart=>exact ⟨0,r,0,0,0,by omega,rfl,hsr,rfl,hB.alloc _,Blk.new' _ _ _ rfl,hb.alloc hb.size _,by omega,by omega,by omega⟩
    case round =>
     obtain ⟨k,q,x,y,z,hk,rfl,hq,hst,hQ,hP,hb,hx,hy,hz⟩:=hrel;have hcq:=hQ.cell_ (i:=0) rfl;have hfq:=hQ.frozen 0
     rcases (by omega:k=3∨k=0∨(0<k∧k<3)) with rfl|rfl|hk12
     ·go_wp2_with fail
      go_meet
      exact ⟨rfl,rfl,rfl,q,x,y,z,hst,hQ,hP,hb,hx,hy,hz⟩
     ·obtain ⟨hK3,hKq⟩:=digLen_le 3 q.data.toList
      have HD:=hid (digits_any 3 q w.heap.size wr (by decide) hq hcq hfq);obtain ⟨HP1,HP2⟩:=dig_part 3 q;have hl1:(q.extract 0 (digLen 3 q.data.toList)).size=digLen 3 q.data.toList:=dig_size 3 q;have HST:=hid hst;have HO:=hid (hours_step q _ x y z rfl);generalize digLen 3 q.data.toList=K at *;have HDig:=hid (And.intro HP1 HP2);clear hst HP1 HP2 hcq hfq;have HQ:=hid hQ;have HP:=hid hP;have Hb:=hid hb;clear hQ hP hb;have hAr:w.heap.size<wr.heap.size:=HQ.out.lt;go_wp2_with fail
      refine HD.out.mono ?_;rintro e w1 ⟨rfl,h1⟩;have HQ1:=hid (show Blk w1 w.heap.size 9 #[.string (q.extract K q.size)] from h1 ▸ HQ.out.set_ 0 _);have HP1:=hid (show Blk w1 wo.heap.size 271 #[.int .i64 (x:Int),.int .i64 (y:Int),.int .i64 (z:Int)] from h1 ▸ HP.out.far (by show wo.heap.size≠w.heap.size;omega) _);have Hb1:=hid (show Below w.heap.size w w1 from h1 ▸ Hb.out.setCell (Nat.le_refl _) _);clear h1 HQ HP Hb HD;go_wp2_with fail
      by_cases h0:K=0
      ·subst h0
       rw [part_none];refine (pint_none w1 (hE.below Hb1.out)).mono ?_;rintro e w2 ⟨⟨t,p,rfl⟩,hb2⟩;have hb3:=Hb1.out.trans (hb2.mono Hb1.out.size);have HRR:=hid (show R=(0,5) by rw [HR.out,form_none (by decide) HST.out (by rw [HO.out];exact if_pos (.inl rfl))];rfl);go_wp2_with fail
       go_ret2
       exact ⟨by rw [HRR.out];rfl,hb3⟩
      ·refine (pint_any (q.extract 0 K) w1 (by intro h;rw [h] at HDig;exact h0 HDig.out.2.symm) (by rw [HDig.out.2];omega) HDig.out.1).mono ?_
       rintro e w2 ⟨rfl,hb2⟩;have HQ2:=hid (HQ1.out.below hb2 (by have:=HQ1.out.lt;omega));have HP2:=hid (HP1.out.below hb2 (by have:=HP1.out.lt;omega));have Hb2:=hid (Hb1.out.trans (hb2.mono Hb1.out.size));clear hb2 HQ1 HP1 Hb1
       have HVL:=hid (show valD (q.extract 0 K).data.toList≤999 by
        have:=valD_lt _ HDig.out.1;have h2:(10:Nat) ^ (q.extract 0 K).data.toList.length≤10 ^ 3:=Nat.pow_le_pow_right (by decide) (by rw [HDig.out.2];exact hK3)
        omega)
       generalize hV:valD (q.extract 0 K).data.toList=V at *;have HV:=hid hV;have hV9:=HVL.out;clear hV HVL;have hb3:Below w.heap.size w w2:=Hb2.out;have hcP:=HP2.out.cell_ (i:=0) rfl;have hfP:=HP2.out.frozen 0;have HB3:=hid hb3;clear hb3
       have hq0:q.size≠0:=by have:q.data.toList.length=q.size:=by simp
                             omega
       obtain ⟨a,ha,hg⟩:=head_at hq0;have g0:∀h,((q.extract 0 K)[0]'h).toNat=a.toNat:=fun h=>by rw [ByteArray.getElem_extract];simp only [Nat.zero_add];rw [hg]
       have HA:=hid ha;clear hg ha
       by_cases h1:K=1
       ·subst h1
        have HO1:=hid (show stepR 0 (q.data.toList,x,y,z)=some ((q.extract 1 q.size).data.toList,V,y,z) by rw [HO.out,if_neg (by omega)]);go_wp2_with fail
        go_roundw
        case rel=>exact ⟨1,q.extract 1 q.size,V,y,z,by decide,rfl,size_part _ _ _ _ hq,st_next HST.out HO1.out,HQ2.out.far (by show w.heap.size≠wo.heap.size;omega) _,HP2.out.set_ 0 _,HB3.out.setCell (by show w.heap.size≤wo.heap.size;omega) _,by omega,hy,hz⟩
        case measure=>simp [intOf]
       ·have hK1:1<K:=by omega
        by_cases h48:a=48
        ·subst h48
         have HRR:=hid (show R=(0,5) by rw [HR.out,form_none (by decide) HST.out (by rw [HO.out];exact if_pos (.inr ⟨hK1,HA.out⟩))];rfl);go_wp2_with fail
         go_ret2
         exact ⟨by rw [HRR.out];rfl,HB3.out⟩
        ·have h48b:((a.toNat:Int)==48)=false:=beq_eq_false_iff_ne.2 (fun e=>h48 (UInt8.toNat_inj.1 (by show a.toNat=48;omega)))
         have HO1:=hid (show stepR 0 (q.data.toList,x,y,z)=some ((q.extract K q.size).data.toList,V,y,z) by rw [HO.out,if_neg (by rw [HA.out];simp;exact ⟨h0,fun _=>h48⟩)]);clear h48;go_wp2_with fail
         go_roundw
         case rel=>exact ⟨1,q.extract K q.size,V,y,z,by decide,rfl,size_part _ _ _ _ hq,st_next HST.out HO1.out,HQ2.out.far (by show w.heap.size≠wo.heap.size;omega) _,HP2.out.set_ 0 _,HB3.out.setCell (by show w.heap.size≤wo.heap.size;omega) _,by omega,hy,hz⟩
         case measure=>simp [intOf]
     ·obtain ⟨hk0,hk3⟩:0<k∧k<3:=by omega
      have hk12:k=1∨k=2:=by omega
      have hkb:((k:Int)==0)=false:=beq_eq_false_iff_ne.2 (by omega);have hki:(k:Int)<3:=by omega
      have hkp:(0:Int)<(k:Int):=by omega
      have HST:=hid hst;clear hst
      by_cases hq0:q.size=0
      ·obtain rfl:=empty_of hq0
       go_wp2_with fail
       go_meet
       exact ⟨rfl,rfl,rfl,⟨#[]⟩,x,y,z,st_stay (by omega) (by omega) HST.out,hQ,hP,hb,hx,hy,hz⟩
      obtain ⟨a,ha,hg⟩:=head_at hq0;have hne:=list_empty hq0;have g0:∀h,(q[0]'h).toNat=a.toNat:=fun h=>by rw [hg]
      have HPS:=hid ((part_step k (by omega) q.data.toList (by intro h;rw [h] at ha;cases ha) x y z).trans (by rw [part_is q a ha]));have hq1:0<q.size:=by omega
      clear hg ha
      by_cases h58:a=58
      ·subst h58
       have HQ:=hid hQ;have HP:=hid hP;have Hb:=hid hb;have hAr:w.heap.size<wr.heap.size:=hQ.lt;clear hQ hP hb;go_wp2_with fail
       have hcT:(wr.setCell ⟨w.heap.size,0,none⟩ (.string (q.extract 1 q.size))).cell? ⟨w.heap.size,0,none⟩=some (.string (q.extract 1 q.size)):=(HQ.out.set_ 0 _).cell_ rfl;have HQ0:=hid (HQ.out.set_ 0 (.string (q.extract 1 q.size)));have HP0:=hid (HP.out.far (p:=⟨w.heap.size,0,none⟩) (by show wo.heap.size≠w.heap.size;omega) (.string (q.extract 1 q.size)));have Hb0:=hid (Hb.out.setCell (p:=⟨w.heap.size,0,none⟩) (Nat.le_refl _) (.string (q.extract 1 q.size)));have hAr0:w.heap.size<(wr.setCell ⟨w.heap.size,0,none⟩ (.string (q.extract 1 q.size))).heap.size:=HQ0.out.lt;have hT:(q.extract 1 q.size).size≤1048576:=size_part _ _ _ _ hq;clear HQ HP Hb hcq hfq;generalize wr.setCell ⟨w.heap.size,0,none⟩ (.string (q.extract 1 q.size))=w0 at *;generalize q.extract 1 q.size=T at *;obtain ⟨hK2,hKT⟩:=digLen_le 2 T.data.toList;have HD:=hid (digits_any 2 T w.heap.size w0 (by decide) hT hcT (HQ0.out.frozen 0));obtain ⟨HP1,HP2⟩:=dig_part 2 T;have hl1:(T.extract 0 (digLen 2 T.data.toList)).size=digLen 2 T.data.toList:=dig_size 2 T;generalize digLen 2 T.data.toList=K at *;have HDig:=hid (And.intro HP1 HP2);clear HP1 HP2 hcT;refine HD.out.mono ?_;rintro e w1 ⟨rfl,h1⟩;have HQ1:=hid (show Blk w1 w.heap.size 9 #[.string (T.extract K T.size)] from h1 ▸ HQ0.out.set_ 0 _);have HP1:=hid (show Blk w1 wo.heap.size 271 #[.int .i64 (x:Int),.int .i64 (y:Int),.int .i64 (z:Int)] from h1 ▸ HP0.out.far (by show wo.heap.size≠w.heap.size;omega) _);have Hb1:=hid (show Below w.heap.size w w1 from h1 ▸ Hb0.out.setCell (Nat.le_refl _) _);clear h1 HQ0 HP0 Hb0 HD;go_wp2_with fail
       by_cases h0:K=0
       ·subst h0
        rw [part_none];refine (pint_none w1 (hE.below Hb1.out)).mono ?_;rintro e w2 ⟨⟨t,p,rfl⟩,hb2⟩;have hb3:=Hb1.out.trans (hb2.mono Hb1.out.size);have HRR:=hid (show R=(0,5) by rw [HR.out,form_none hk3 HST.out (by rw [HPS.out,if_neg (by omega)];rfl)];rfl);have HB3:=hid hb3;clear hb2 hb3;go_wp2_with fail
        go_ret2
        exact ⟨by rw [HRR.out];rfl,HB3.out⟩
       ·refine (pint_any (T.extract 0 K) w1 (by intro h;rw [h] at HDig;exact h0 HDig.out.2.symm) (by rw [HDig.out.2];omega) HDig.out.1).mono ?_
        rintro e w2 ⟨rfl,hb2⟩;have HQ2:=hid (HQ1.out.below hb2 (by have:=HQ1.out.lt;omega));have HP2:=hid (HP1.out.below hb2 (by have:=HP1.out.lt;omega));have HB2:=hid (Hb1.out.trans (hb2.mono Hb1.out.size));clear hb2 HQ1 HP1 Hb1
        have HVL:=hid (show valD (T.extract 0 K).data.toList≤999 by
         have:=valD_lt _ HDig.out.1;have h2:(10:Nat) ^ (T.extract 0 K).data.toList.length≤10 ^ 3:=Nat.pow_le_pow_right (by decide) (by rw [HDig.out.2];omega)
         omega)
        by_cases hK1:K=1
        ·subst hK1
         have HRR:=hid (show R=(0,5) by rw [HR.out,form_none hk3 HST.out (by rw [HPS.out,if_neg (by omega)];rfl)];rfl);clear HVL;generalize valD (T.extract 0 1).data.toList=V at *;go_wp2_with fail
         go_ret2
         exact ⟨by rw [HRR.out];rfl,HB2.out⟩
        ·obtain rfl:K=2:=by omega
         generalize hV:valD (T.extract 0 2).data.toList=V at *;have hV9:=HVL.out;have HV:=hid hV;clear hV HVL
         by_cases h59:V≤59
         ·have hi59:¬(59<(V:Int)):=by omega
          have HO1:=hid (show stepR k (q.data.toList,x,y,z)=some ((T.extract 2 T.size).data.toList,upd k x y z V) by rw [HPS.out,if_pos (by simp [h59])];rfl);have HU:=hid (upd_set k x y z V hk12);have HL:=hid (upd_le (k:=k) hx hy hz h59);obtain ⟨v,hv⟩:∃v,(#[.int .i64 (x:Int),.int .i64 (y:Int),.int .i64 (z:Int)]:Array Value)[k]? = some v:=⟨_,Array.getElem?_eq_getElem (by simpa using hk3)⟩;have hcP:w2.cell? ⟨wo.heap.size,k,none⟩=some v:=HP2.out.cell_ hv;have hfP:=HP2.out.frozen k;clear hv h59;go_wp2_with fail
          go_roundw
          case rel =>
           refine ⟨k+1,T.extract 2 T.size,(upd k x y z V).1,(upd k x y z V).2.1,(upd k x y z V).2.2,by omega,by go_num,size_part _ _ _ _ hT,st_next HST.out HO1.out,HQ2.out.far (by show w.heap.size≠wo.heap.size;omega) _,?_,HB2.out.setCell (by show w.heap.size≤wo.heap.size;omega) _,HL.out⟩;rw [←HU.out];exact HP2.out.set_ k _
          case measure=>simp [intOf];omega
         ·have hi59:59<(V:Int):=by omega
          have HRR:=hid (show R=(0,5) by rw [HR.out,form_none hk3 HST.out (by rw [HPS.out,if_neg (fun h=>h59 h.2.2)];rfl)];rfl);clear h59;go_wp2_with fail
          go_ret2
          exact ⟨by rw [HRR.out];rfl,HB2.out⟩
      ·have h58b:((a.toNat:Int) != 58)=true:=by rw [bne_iff_ne];exact fun e=>h58 (UInt8.toNat_inj.1 (by show a.toNat=58;omega))
       have HRR:=hid (show R=(0,5) by rw [HR.out,form_none hk3 HST.out (by rw [HPS.out,if_neg (fun h=>h58 h.1)];rfl)];rfl);clear h58;have HB:=hid hb;clear hb;go_wp2_with fail
       go_ret2
       exact ⟨by rw [HRR.out];rfl,HB.out⟩
   case rest =>
    obtain ⟨rfl,rfl,rfl,q,x,y,z,hst,hQ,hP,hb,hx,hy,hz⟩:=hcut;have hU2:=hU.below hb;obtain ⟨u0,u1,u2⟩:=hU2;have hcq:=hQ.cell_ (i:=0) rfl;obtain ⟨p0,p1,p2,_,_,_⟩:=hP.three;have HF:=hid (show formR r.data.toList=if q.data.toList=[] then some (3600*x+60*y+z) else none by rw [formR,hst];rfl);have HB:=hid hb;clear hst hQ hP hb hU hE;have i0:∀w,(Instr.index 271 (.agg #[.int .i64 (x:Int),.int .i64 (y:Int),.int .i64 (z:Int)]) (.int .i64 0)).run Tryz.prog w=.ok (.int .i64 (x:Int)) w:=fun _=>by kernel_rfl
    have i1:∀w,(Instr.index 271 (.agg #[.int .i64 (x:Int),.int .i64 (y:Int),.int .i64 (z:Int)]) (.int .i64 1)).run Tryz.prog w=.ok (.int .i64 (y:Int)) w:=fun _=>by kernel_rfl
    have i2:∀w,(Instr.index 271 (.agg #[.int .i64 (x:Int),.int .i64 (y:Int),.int .i64 (z:Int)]) (.int .i64 2)).run Tryz.prog w=.ok (.int .i64 (z:Int)) w:=fun _=>by kernel_rfl
    by_cases hq0:q.size=0
    ·obtain rfl:=empty_of hq0
     have HFin:=hid (show R=endR mn (some (3600*x+60*y+z)) by rw [HR.out,HF.out];rfl);clear HF HR hq0
     cases mn with
     | false =>
      by_cases hX:604799<(x:Int)*3600+(y:Int)*60+(z:Int)
      all_goals
       go_wp2_with fail
       refine wp_loop_rounds 4 ?_;rw [rounds_succ];go_wp2_with fail
       rw [rounds_succ];go_wp2_with fail
       rw [rounds_succ];go_wp2_with fail
       rw [rounds_succ];go_wp2_with fail
       go_ret2
       refine ⟨?_,HB.out⟩;rw [HFin.out];simp only [endR,Bool.false_eq_true,false_and,if_false]
       first|(rw [if_pos (by omega)];rfl)|(rw [if_neg (by omega)];exact ret2i (by omega) rfl)
     | true =>
      by_cases h0:(x:Int)*3600+(y:Int)*60+(z:Int)=0
      ·have h0b:((x:Int)*3600+(y:Int)*60+(z:Int)==0)=true:=beq_iff_eq.2 h0
       have hX0:3600*x+60*y+z=0:=by omega
       have HX0:=hid hX0;clear h0 hX0;go_wp2_with fail
       refine wp_loop_rounds 4 ?_;rw [rounds_succ];go_wp2_with fail
       rw [rounds_succ];go_wp2_with fail
       rw [rounds_succ];go_wp2_with fail
       rw [rounds_succ];go_wp2_with fail
       go_ret2
       refine ⟨?_,HB.out⟩;rw [HFin.out,HX0.out]
       rfl
      ·have h0b:((x:Int)*3600+(y:Int)*60+(z:Int)==0)=false:=beq_eq_false_iff_ne.2 h0
       have hX0:0<3600*x+60*y+z:=by omega
       by_cases hX:604799<(x:Int)*3600+(y:Int)*60+(z:Int)
       all_goals
        clear h0;go_wp2_with fail
        refine wp_loop_rounds 4 ?_;rw [rounds_succ];go_wp2_with fail
        rw [rounds_succ];go_wp2_with fail
        rw [rounds_succ];go_wp2_with fail
        rw [rounds_succ];go_wp2_with fail
        go_ret2
        refine ⟨?_,HB.out⟩;rw [HFin.out];simp only [endR,true_and,if_true]
        first|(rw [if_neg (by omega),if_pos (by omega)];rfl)|(rw [if_neg (by omega),if_neg (by omega)];exact ret2i (by omega) rfl)
    ·have hne:=list_empty hq0
     have HFin:=hid (show R=(0,5) by rw [HR.out,HF.out,if_neg (fun h=>hq0 (by have:=congrArg List.length h;simpa using this))];rfl);clear HF HR hq0;go_wp2_with fail
     refine wp_loop_rounds 4 ?_;rw [rounds_succ];go_wp2_with fail
     rw [rounds_succ];go_wp2_with fail
     rw [rounds_succ];go_wp2_with fail
     rw [rounds_succ];go_wp2_with fail
     go_ret2
     exact ⟨by rw [HFin.out];rfl,HB.out⟩
theorem valD_snoc (l:List UInt8) (c:UInt8):valD (l++[c])=valD l*10+(c.toNat-48):=by simp [valD]
theorem valD_pos:∀(l:List UInt8) (a:UInt8),allD (a::l)→a≠48→1≤valD (a::l):=by
 intro l a hd ha;have h1:=hd a (by simp);have h2:a.toNat≠48:=fun h=>ha (UInt8.toNat_inj.1 h)
 have mono:∀(l:List UInt8) (acc:Nat),acc≤l.foldl (fun a c=>a*10+(c.toNat-48)) acc:=by
  intro l
  induction l with
  | nil=>intro acc;exact Nat.le_refl _
  | cons b l ih=>intro acc;exact Nat.le_trans (show acc≤acc*10+(b.toNat-48) by omega) (ih _)
 have:=mono l (0*10+(a.toNat-48));simp only [valD,List.foldl_cons]
 omega
theorem dec_snoc (m d:Nat) (hm:1≤m) (hd:d<10):Lib.decDigits (m*10+d)=Lib.decDigits m++[UInt8.ofNat (48+d)]:=by
 rw [Lib.decDigits,dif_neg (by omega),show (m*10+d) / 10=m by omega,show (m*10+d) % 10=d by omega]
theorem dec_val:∀(n:Nat) (l:List UInt8),l.length=n→allD l→l≠[]→l.head? ≠ some 48→Lib.decDigits (valD l)=l:=by
 intro n
 induction n with
 | zero=>intro l hl _ h0;exact absurd (List.length_eq_zero_iff.1 hl) h0
 | succ n ih =>
  intro l hl hd h0 hh
  rcases List.eq_nil_or_concat l with rfl|⟨r,c,rfl⟩
  ·exact absurd rfl h0
  ·have hc:=hd c (by simp)
   rw [List.concat_eq_append,valD_snoc];have hcb:UInt8.ofNat (48+(c.toNat-48))=c:=by rw [show 48+(c.toNat-48)=c.toNat by omega];simp
   match r,hl,hd,hh with
   | [],_,_,_=>rw [show valD []*10+(c.toNat-48)=c.toNat-48 by simp [valD],Lib.decDigits_one (by omega),hcb];rfl
   | a::r,hl,hd,hh =>
    have hd':allD (a::r):=fun x hx=>hd x (by simp at hx ⊢;exact hx.elim Or.inl (fun h=>Or.inr (Or.inl h)))
    have ha:a≠48:=fun e=>hh (by simp [e])
    rw [dec_snoc _ _ (valD_pos r a hd' ha) (by omega),ih (a::r) (by simpa using hl) hd' (by simp) (by simp [ha]),hcb]
theorem dec_all:∀n:Nat,allD (Lib.decDigits n)∧valD (Lib.decDigits n)=n∧Lib.decDigits n≠[]∧(n≠0→(Lib.decDigits n).head? ≠ some 48):=by
 intro n
 induction n using Nat.strongRecOn with
 | _ n ih =>
  by_cases h:n<10
  ·rw [Lib.decDigits_one h]
   have h2:(UInt8.ofNat (48+n)).toNat=48+n:=by rw [UInt8.toNat_ofNat'];omega
   refine ⟨fun a ha=>?_,?_,by simp,fun h0 e=>?_⟩
   ·rw [List.mem_singleton.1 ha,h2];omega
   ·simp only [valD,List.foldl_cons,List.foldl_nil,h2];omega
   ·have e:some (UInt8.ofNat (48+n))=some 48:=e
    have:=congrArg UInt8.toNat (Option.some.inj e);rw [h2] at this;have h3:(48:UInt8).toNat=48:=rfl
    omega
  ·obtain ⟨i1,i2,i3,i4⟩:=ih (n / 10) (by omega)
   have h2:(UInt8.ofNat (48+n % 10)).toNat=48+n % 10:=by rw [UInt8.toNat_ofNat'];omega
   rw [Lib.decDigits,dif_neg h];refine ⟨fun a ha=>?_,?_,by simp,fun _=>?_⟩
   ·rcases List.mem_append.1 ha with ha|ha
    ·exact i1 a ha
    ·rw [List.mem_singleton.1 ha,h2];omega
   ·rw [valD_snoc,i2,h2];omega
   ·rw [List.head?_append]
    have:=i4 (by omega)
    cases hl:Lib.decDigits (n / 10) with
    | nil=>exact absurd hl i3
    | cons a r=>rw [hl] at this;simpa using this
theorem dec_len:∀n:Nat,n≤9999→(Lib.decDigits n).length≤4:=by
 intro n h;rw [Lib.decDigits];split
 ·simp
 ·rw [Lib.decDigits];split
  ·simp
  ·rw [Lib.decDigits];split
   ·simp
   ·rw [Lib.decDigits_one (by omega)];simp
def isYear (l:List UInt8):Prop:=1≤l.length∧l.length≤4∧l.head? ≠ some 48∧allD l
instance (l:List UInt8):Decidable (allD l):=inferInstanceAs (Decidable (∀a ∈ l,48≤a.toNat∧a.toNat≤57))
instance (l:List UInt8):Decidable (isYear l):=inferInstanceAs (Decidable (1≤l.length∧l.length≤4∧l.head? ≠ some 48∧allD l))
def yearR (l:List UInt8):Int × Int:=if isYear l then (if 1850≤valD l∧valD l≤2149 then ((valD l:Int),0) else (0,3)) else (0,5)
theorem isYear_dec (n:Nat) (h1:1≤n) (h2:n≤9999):isYear (Lib.decDigits n):=by
 obtain ⟨i1,i2,i3,i4⟩:=dec_all n;refine ⟨?_,dec_len n h2,i4 (by omega),i1⟩
 rcases Nat.eq_zero_or_pos (Lib.decDigits n).length with h|h
 ·exact absurd (List.length_eq_zero_iff.1 h) i3
 ·exact h
theorem uint10_ok:∀(l:List UInt8) (acc:Nat),allD l→(acc+1)*10 ^ l.length≤1000000→Lib.parseUint10 acc l=.ok (l.foldl (fun a c=>a*10+(c.toNat-48)) acc)
 | [],acc,_,_=>rfl
 | a::l,acc,hd,hb=>by
  have ha:=hd a (by simp)
  have h1:(acc*10+(a.toNat-48)+1)*10 ^ l.length≤1000000:=by
   refine Nat.le_trans ?_ hb;rw [List.length_cons,Nat.pow_succ,←Nat.mul_assoc,Nat.mul_right_comm];exact Nat.mul_le_mul_right _ (by omega)
  have h2:acc*10+(a.toNat-48)+1≤1000000:=Nat.le_trans (Nat.le_mul_of_pos_right _ (Nat.pow_pos (by decide))) h1;rw [Lib.parseUint10,if_pos ha,if_neg (by omega),if_neg (by omega),List.foldl_cons];exact uint10_ok l _ (fun x hx=>hd x (by simp [hx])) h1
theorem year_ok {l:List UInt8} (h:isYear l):Lib.atoiAll l=.ok (valD l:Int)∧1≤valD l∧valD l≤9999∧Lib.itoa (valD l:Int)=l:=by
 obtain ⟨h1,h2,h3,h4⟩:=h;have hp:10 ^ l.length≤10000:=Nat.le_trans (Nat.pow_le_pow_right (by decide) h2) (by decide);have hv:=valD_lt l h4;have h0:l≠[]:=fun e=>by rw [e] at h1;simp at h1
 have hU:Lib.parseMag l=.ok (valD l):=by
  rw [Lib.parseMag,if_neg h0];exact uint10_ok l 0 h4 (by omega)
 refine ⟨?_,?_,by omega,by rw [Lib.itoa_nonneg];exact dec_val _ l rfl h4 h0 h3⟩
 ·match l,h0,h4,hU,hv with
  | a::r,h0,h4,hU,hv =>
   have ha:=h4 a (by simp);simp only [Lib.atoiAll];rw [if_neg (by omega),hU];simp only;rw [if_neg (by omega),if_neg (by omega),if_neg (by omega)]
 ·match l,h0,h3,h4 with
  | a::r,_,h3,h4=>exact valD_pos r a h4 (fun e=>h3 (by simp [e]))
def ErrRan (w:World):Prop:=∃tp p,w.var? Tryz.prog "strconv.ErrRange" = some #[.iface tp p]
theorem gErrRan:Tryz.prog.globalNamed "strconv.ErrRange" = some 17:=by kernel_rfl
theorem ErrRan.below {w w':World} (h:ErrRan w) (hb:Below w.heap.size w w'):ErrRan w':=by
 obtain ⟨tp,p,h⟩:=h;exact ⟨tp,p,Joins.var_stays gErrRan h hb (Nat.le_refl _)⟩
theorem atoi_ok (s:ByteArray) (w:World) (hs:s.size≤1048576) (v:Int) (h:Lib.atoiAll s.data.toList=.ok v) :
 Calls Tryz.prog 187 #[.string s] w fun e w'=>e=.returned (.tuple #[.int .i64 v,.nilIface])∧Below w.heap.size w w':=by
 refine (Any.strconv_Atoi_ok Tryz.laysC172 s (by omega) v h w).mono ?_;rintro e w' ⟨h1,h2⟩;refine ⟨h1,?_⟩
 rcases h2 with rfl|⟨t,rfl⟩
 ·exact Below.refl _ _
 ·exact Lib.bytesWorld_below _ _ _
theorem atoi_err (s:ByteArray) (w:World) (hs:s.size≤1048576) (hE:ErrSyn w) (hR:ErrRan w) (h:∀v,Lib.atoiAll s.data.toList≠.ok v) :
 Calls Tryz.prog 187 #[.string s] w fun e w'=>(∃n t p,e=.returned (.tuple #[.int .i64 n,.iface t p]))∧Below w.heap.size w w':=by
 rcases hA:Lib.atoiAll s.data.toList with v|_|_
 ·exact absurd hA (h v)
 ·obtain ⟨tp,p,hv⟩:=hE
  refine (Any.strconv_Atoi_syntax_var Tryz.laysC172 s (by omega) hA tp p w hv).mono ?_;rintro e w' ⟨N,h1,_,_,h2⟩;exact ⟨⟨_,_,_,h1⟩,h2⟩
 ·obtain ⟨tp,p,hv⟩:=hR
  refine (Any.strconv_Atoi_range_var Tryz.laysC172 s (by omega) hA tp p w hv).mono ?_;rintro e w' ⟨N,h1,_,_,h2⟩;exact ⟨⟨_,_,_,h1⟩,h2⟩
def namedB (y:Int):Bool:=decide (1850≤y∧y≤2149)
theorem named_yes (y:Int) (w:World) (h:namedB y=true) :
 Calls Tryz.prog 33 #[.int .i64 y] w fun e w'=>e=.returned (.bool true)∧w=w':=by
 have h2:=of_decide_eq_true h;obtain ⟨h3,h4⟩:=h2;clear h
 go_enter Tryz.func33,Tryz.ntmps33
 go_wp2
 go_ret
 exact ⟨rfl,rfl⟩
theorem named_no (y:Int) (w:World) (h:namedB y=false) :
 Calls Tryz.prog 33 #[.int .i64 y] w fun e w'=>e=.returned (.bool false)∧w=w':=by
 have h2:=of_decide_eq_false h;clear h
 by_cases h3:1850≤y
 ·have h4:¬y≤2149:=fun h=>h2 ⟨h3,h⟩
  clear h2
  go_enter Tryz.func33,Tryz.ntmps33
  go_wp2
  go_ret
  exact ⟨rfl,rfl⟩
 ·clear h2
  go_enter Tryz.func33,Tryz.ntmps33
  go_wp2
  go_ret
  exact ⟨rfl,rfl⟩
theorem named_any (y:Int) (w:World) :
 Calls Tryz.prog 33 #[.int .i64 y] w fun e w'=>e=.returned (.bool (namedB y))∧w=w':=by
 cases h:namedB y
 ·exact named_no y w h
 ·exact named_yes y w h
theorem year_any (s:ByteArray) (w:World) (hs:s.size≤1048576) (hP:Pows w) (hE:ErrSyn w) (hR:ErrRan w) :
 Calls Tryz.prog 170 #[.string s] w fun e w'=>e=.returned (.tuple #[.int .i64 (yearR s.data.toList).1,.int .i64 (yearR s.data.toList).2])∧Below w.heap.size w w':=by
 by_cases hok:∃v,Lib.atoiAll s.data.toList=.ok v
 ·obtain ⟨v,hv⟩:=hok
  have HA:=hid (atoi_ok s w hs v hv)
  by_cases hy:1≤v∧v≤9999
  ·obtain ⟨h1,h2⟩:=hy
   have HI:=hid (show ∀W,Below w.heap.size w W→Calls Tryz.prog 35 #[.int .i64 v] W fun e w'=>e=.returned (.string ⟨(Lib.itoa v).toArray⟩)∧Below W.heap.size W w' from fun W hW=>itoa_any v W (hP.below hW) (by omega) (by omega))
   by_cases he:Lib.itoa v=s.data.toList
   ·obtain ⟨n,rfl⟩:=Int.eq_ofNat_of_zero_le (show 0≤v by omega)
    rw [Lib.itoa_nonneg] at he HI;have hval:valD s.data.toList=n:=by rw [←he];exact (dec_all n).2.1
    have HY:=hid (show yearR s.data.toList=if namedB n=true then ((n:Int),0) else (0,3) by
     rw [yearR,if_pos (by rw [←he];exact isYear_dec n (by omega) (by omega)),hval]
     by_cases hn:1850≤n∧n≤2149
     ·rw [if_pos hn,if_pos (show namedB n=true from decide_eq_true (by omega))]
     ·rw [if_neg hn,if_neg (fun h=>by have:=of_decide_eq_true h;omega)])
    have hse:(⟨(Lib.decDigits n).toArray⟩:ByteArray)=s:=by rw [he]
    rw [hse] at HI;have hne:(s.toList != s.toList)=false:=by simp
    clear hP hE hR hv he hval hse
    cases hn:namedB n
    ·rw [hn,if_neg (by decide)] at HY
     have HN:=hid hn;clear hn
     go_enter Tryz.func170,Tryz.ntmps170;go_wp2_with fail
     refine HA.out.mono ?_;rintro e w1 ⟨rfl,hb1⟩;go_wp2_with fail
     refine (HI.out _ hb1).mono ?_;rintro e w2 ⟨rfl,hb2⟩;have HB:=hid (hb1.trans (hb2.mono hb1.size));clear hb1 hb2 HI HA;go_wp2_with fail
     refine (named_no n _ HN.out).mono ?_;rintro e w3 ⟨rfl,rfl⟩;go_wp2_with fail
     go_ret2
     exact ⟨by rw [HY.out];rfl,HB.out⟩
    ·rw [hn,if_pos rfl] at HY
     have HN:=hid hn;clear hn
     go_enter Tryz.func170,Tryz.ntmps170;go_wp2_with fail
     refine HA.out.mono ?_;rintro e w1 ⟨rfl,hb1⟩;go_wp2_with fail
     refine (HI.out _ hb1).mono ?_;rintro e w2 ⟨rfl,hb2⟩;have HB:=hid (hb1.trans (hb2.mono hb1.size));clear hb1 hb2 HI HA;go_wp2_with fail
     refine (named_yes n _ HN.out).mono ?_;rintro e w3 ⟨rfl,rfl⟩;go_wp2_with fail
     go_ret2
     exact ⟨by rw [HY.out];rfl,HB.out⟩
   ·have HY:=hid (show yearR s.data.toList=(0,5) from if_neg (fun h=>by
     obtain ⟨k1,_,_,k4⟩:=year_ok h;rw [hv] at k1
     injection k1 with k1
     exact he (by rw [k1];exact k4)))
    generalize Lib.itoa v=il at *;have hne:(il != s.data.toList)=true:=by rw [bne_iff_ne];exact he
    have hne3:(il==s.toList)=false:=by rw [beq_eq_false_iff_ne,Lib.toList_data];exact he
    have hne2:((⟨il.toArray⟩:ByteArray).toList != s.toList)=true:=by rw [bne_iff_ne,Lib.toList_data,Lib.toList_data];exact he
    clear hP hE hR hv he
    go_enter Tryz.func170,Tryz.ntmps170;go_wp2_with fail
    refine HA.out.mono ?_;rintro e w1 ⟨rfl,hb1⟩;go_wp2_with fail
    refine (HI.out _ hb1).mono ?_;rintro e w2 ⟨rfl,hb2⟩;have HB:=hid (hb1.trans (hb2.mono hb1.size));clear hb1 hb2 HI HA;go_wp2_with fail
    go_ret2
    exact ⟨by rw [HY.out];rfl,HB.out⟩
  ·have HY:=hid (show yearR s.data.toList=(0,5) from if_neg (fun h=>by
    obtain ⟨k1,k2,k3,_⟩:=year_ok h;rw [hv] at k1
    injection k1 with k1
    omega))
   clear hP hE hR hv
   rcases (by omega:v<1∨(¬v<1∧9999<v)) with h1|⟨h1,h2⟩
   all_goals
    clear hy
    go_enter Tryz.func170,Tryz.ntmps170;go_wp2_with fail
    refine HA.out.mono ?_;rintro e w1 ⟨rfl,hb1⟩;have HB:=hid hb1;clear hb1 HA;go_wp2_with fail
    go_ret2
    exact ⟨by rw [HY.out];rfl,HB.out⟩
 ·have HA:=hid (atoi_err s w hs hE hR (fun v hv=>hok ⟨v,hv⟩))
  have HY:=hid (show yearR s.data.toList=(0,5) from if_neg (fun h=>hok ⟨_,(year_ok h).1⟩));clear hP hE hR hok
  go_enter Tryz.func170,Tryz.ntmps170;go_wp2_with fail
  refine HA.out.mono ?_;rintro e w1 ⟨⟨n,t,p,rfl⟩,hb1⟩;have HB:=hid hb1;clear hb1 HA;go_wp2_with fail
  go_ret2
  exact ⟨by rw [HY.out];rfl,HB.out⟩
def lettersO:Obj:=.cells #[.int .i32 119,.int .i64 0,.int .i32 115,.int .i64 1,.int .i32 117,.int .i64 2,.int .i32 103,.int .i64 2,.int .i32 122,.int .i64 2] 127
theorem letters_any (w:World):Calls Tryz.prog 63 #[] w fun e w'=>e=.returned (.slice (some ⟨w.heap.size,0,none⟩) 5 5)∧w.alloc lettersO=w':=by
 go_enter Tryz.func63,Tryz.ntmps63
 go_wp2
 go_ret
 exact ⟨rfl,rfl⟩
def baseOf (c:Nat):Option Int:=if c=119 then some 0 else if c=115 then some 1 else if c=117∨c=103∨c=122 then some 2 else none
def cutR (l:List UInt8):List UInt8 × Int:=match (l.getLast?.bind fun c=>baseOf c.toNat) with
 | some b=>(l.dropLast,b)
 | none=>(l,0)
def LastIs (s:ByteArray) (p at_ r:Nat):Prop:=(p=0∧at_=0∧r=0)∨(at_<p∧p≤s.size∧((r<128∧p=at_+1∧(s.get! at_).toNat=r)∨(128≤r∧128≤(s.get! (p-1)).toNat)))
theorem last_step' (s:ByteArray) (pos r n:Nat) (hp:pos<s.size) (hD:Utf8.decode s pos=(r,n)):LastIs s (pos+n) pos r:=by
 have hn1:1≤n:=by have:=width_one s pos;rw [hD] at this;exact this
 have e:s[pos]'hp=s.get! pos:=(get_at s pos hp).symm
 by_cases h:(s.get! pos).toNat<128
 ·have hd:=decode_ascii s pos hp (by rw [e];exact h)
  rw [hD,e] at hd;obtain ⟨rfl,rfl⟩:=Prod.mk.inj hd;exact .inr ⟨by omega,by omega,.inl ⟨h,rfl,rfl⟩⟩
 ·have hi:128≤(s.get! pos).toNat:=by omega
  have h1:=(decode_high s pos hp (by rw [e];exact hi)).1;have h2:=dec_wide s pos hp hi;rw [hD] at h1 h2;simp only at h1 h2;refine .inr ⟨by omega,h2.1,.inr ⟨h1,?_⟩⟩;have:=h2.2 (n-1) (by omega);rwa [show pos+(n-1)=pos+n-1 by omega] at this
theorem get_last (s:ByteArray) (h:0<s.size):s.data.toList.getLast? = some (s.get! (s.size-1)):=by
 rw [List.getLast?_eq_getElem?];have:=get_list s (s.size-1) (by omega)
 simpa using this
theorem cut_none {s:ByteArray} {at_ r:Nat} (h:LastIs s s.size at_ r) (hr:baseOf r=none):cutR s.data.toList=(s.data.toList,0):=by
 unfold cutR
 rcases Nat.eq_zero_or_pos s.size with h0|h0
 ·obtain rfl:=empty_of h0;rfl
 ·rw [get_last s h0]
  rcases h with ⟨h1,_,_⟩|⟨h1,h2,⟨h3,h4,h5⟩|⟨h3,h4⟩⟩
  ·omega
  ·rw [show s.size-1=at_ by omega]
   simp only [Option.bind_some,h5,hr]
  ·have:baseOf (s.get! (s.size-1)).toNat=none:=by unfold baseOf;rw [if_neg (by omega),if_neg (by omega),if_neg (by omega)]
   simp only [Option.bind_some,this]
theorem base_lt {r:Nat} {b:Int} (h:baseOf r=some b):r<128∧r≠0∧0≤b∧b≤2:=by
 unfold baseOf at h
 split at h
 ·cases h;omega
 ·split at h
  ·cases h;omega
  ·split at h
   ·cases h;omega
   ·cases h
theorem cut_some {s:ByteArray} {at_ r:Nat} {b:Int} (h:LastIs s s.size at_ r) (hr:baseOf r=some b):cutR s.data.toList=((s.extract 0 at_).data.toList,b)∧at_<s.size:=by
 have hl:=base_lt hr
 rcases h with ⟨h1,_,_⟩|⟨h1,h2,⟨h3,h4,h5⟩|⟨h3,h4⟩⟩
 ·omega
 ·refine ⟨?_,h1⟩
  unfold cutR;rw [get_last s (by omega),show s.size-1=at_ by omega,list_upto];simp only [Option.bind_some,h5,hr];rw [List.dropLast_eq_take];simp only [Array.length_toList];rw [show s.data.size=s.size from rfl,show s.size-1=at_ by omega]
 ·omega
def letN (k:Nat):Nat:=[119,115,117,103,122].getD k 0
def baseN (k:Nat):Int:=[0,1,2,2,2].getD k 0
def LettersAt (w:World) (g:Nat):Prop:=Blk w g 127 #[.int .i32 119,.int .i64 0,.int .i32 115,.int .i64 1,.int .i32 117,.int .i64 2,.int .i32 103,.int .i64 2,.int .i32 122,.int .i64 2]
theorem LettersAt.at_ {w:World} {g:Nat} (h:LettersAt w g) (k:Nat) (hk:k<5):w.cell? ⟨g,k*2,none⟩=some (.int .i32 (letN k:Int))∧w.cell? ⟨g,k*2+1,none⟩=some (.int .i64 (baseN k)):=by
 rcases (by omega:k=0∨k=1∨k=2∨k=3∨k=4) with rfl|rfl|rfl|rfl|rfl
 all_goals exact ⟨Blk.cell_ h rfl,Blk.cell_ h rfl⟩
theorem LettersAt.lt {w:World} {g:Nat} (h:LettersAt w g):g<w.heap.size:=Blk.lt h
theorem LettersAt.alloc {w:World} {g:Nat} (h:LettersAt w g) (o:Obj):LettersAt (w.alloc o) g:=Blk.alloc h o
theorem letN_base (k:Nat) (hk:k<5):baseOf (letN k)=some (baseN k):=by
 rcases (by omega:k=0∨k=1∨k=2∨k=3∨k=4) with rfl|rfl|rfl|rfl|rfl
 all_goals rfl
theorem letN_none {r:Nat} (h:∀j,j<5→letN j≠r):baseOf r=none:=by
 have h0:119≠r:=h 0 (by decide);have h1:115≠r:=h 1 (by decide);have h2:117≠r:=h 2 (by decide);have h3:103≠r:=h 3 (by decide);have h4:122≠r:=h 4 (by decide);unfold baseOf;rw [if_neg (by omega),if_neg (by omega),if_neg (by omega)]
theorem cut_any (s:ByteArray) (w:World) (hs:s.size≤1048576) :
 Calls Tryz.prog 194 #[.string s] w fun e w'=>e=.returned (.tuple #[.string ⟨(cutR s.data.toList).1.toArray⟩,.int .i64 (cutR s.data.toList).2])∧Below w.heap.size w w':=by
 go_enter Tryz.func194,Tryz.ntmps194;go_wp2_with fail
 go_loopw [4,5] (fun i c wr=>∃pos at_ r:Nat,i=.int .i64 (at_:Int)∧c=.int .i32 (r:Int)∧wr.heap[w.heap.size]? = some (.stringIter s pos)∧Below w.heap.size w wr∧pos≤s.size∧Aside (LastIs s pos at_ r)) (fun _ _ wr=>s.size-wr.iterPos w.heap.size)
 case atStart=>exact ⟨0,0,0,rfl,rfl,World.iter_heap w s 0,(Below.refl _ _).alloc (Nat.le_refl _) _,Nat.zero_le _,.inl ⟨rfl,rfl,rfl⟩⟩
 case round =>
  obtain ⟨pos,at_,rr,rfl,rfl,hit,hbw,hle,HN⟩:=hrel;have hpos0:=hid (iterPos_of hit)
  by_cases hp:pos<s.size
  ·have hnx:∀ty,(Instr.next (.pointer (some ⟨w.heap.size,0,none⟩)) true ty).run Tryz.prog wr=_:=fun ty=>Lib.run_next_any_at wr w.heap.size s pos ty hit hp
   obtain ⟨r,n,hD⟩:∃r n,Utf8.decode s pos=(r,n):=⟨_,_,rfl⟩;have hn1:1≤n:=by have:=width_one s pos;rw [hD] at this;exact this
   rw [hD] at hnx;have HL:=hid (last_step' s pos r n hp hD);have hit2:=Lib.iterAt_heap wr w.heap.size s pos (pos+n) hit;have hbw2:=Lib.below_iterAt hbw (k:=w.heap.size) (Nat.le_refl _) s (pos+n);obtain ⟨W1,hW1⟩:∃W1,W1=wr.iterAt w.heap.size s (pos+n):=⟨_,rfl⟩;simp only [←hW1] at hnx hit2 hbw2;have HK:=hid (And.intro hit2 hbw2);clear hW1 hit hbw hit2 hbw2 hD;go_wp2_with fail
   go_roundw
   case rel =>
    refine ⟨pos+n,pos,r,rfl,rfl,HK.out.1,HK.out.2,?_,HL.out⟩
    rcases HL.out with h|h<;>omega
   case measure=>rw [iterPos_of HK.out.1,hpos0.out];omega
  ·have hnx:∀ty,(Instr.next (.pointer (some ⟨w.heap.size,0,none⟩)) true ty).run Tryz.prog wr=_:=fun ty=>Lib.run_next_end_at wr w.heap.size s pos ty hit hp
   obtain rfl:pos=s.size:=by omega
   have HB:=hid hbw;have HL:=hid HN.out;clear hbw HN hit hpos0;go_wp2_with fail
   refine (letters_any _).mono ?_;rintro e w1 ⟨rfl,h1⟩;have hL:Blk w1 wr.heap.size 127 #[.int .i32 119,.int .i64 0,.int .i32 115,.int .i64 1,.int .i32 117,.int .i64 2,.int .i32 103,.int .i64 2,.int .i32 122,.int .i64 2]:=h1 ▸ Blk.new' _ _ _ rfl;have HB1:=hid (show Below w.heap.size w w1 from h1 ▸ HB.out.alloc HB.out.size _);have hz:=hL.lt;generalize wr.heap.size=gL at *;have HLt:=hid hL;clear h1 hL HB hnx;obtain ⟨W1,hW1⟩:∃W1,W1=wr:=⟨_,rfl⟩;subst hW1;go_wp2_with fail
   go_loopw [20] (fun i wr=>∃k:Nat,k≤5∧i=.int .i64 (k:Int)∧LettersAt wr gL∧Below w.heap.size w wr∧Aside (∀j,j<k→letN j≠rr)) (fun i _=>5-(intOf i).toNat)
   case atStart=>exact ⟨0,by omega,rfl,HLt.out,HB1.out,fun j hj=>absurd hj (by omega)⟩
   case round =>
    obtain ⟨k,hk,rfl,hL,hb,hno⟩:=hrel;have HNo:=hid hno.out;clear hno HLt HB1
    by_cases hlt:k<5
    ·obtain ⟨c0,c1⟩:=hL.at_ k hlt
     have hz1:=hL.lt;have k0:(0:Int)≤(k:Int):=by omega
     have k5:(k:Int)<5:=by omega
     have HLt:=hid hL;have HB1:=hid hb;clear hL hb
     by_cases hr:letN k=rr
     ·obtain ⟨HC,hat⟩:=cut_some HL.out (show baseOf rr=some (baseN k) by rw [←hr];exact letN_base k hlt)
      have HC:=hid HC;have hat1:(at_:Int)≤(s.size:Int):=by omega
      have hat0:(0:Int)≤(at_:Int):=by omega
      rw [hr] at c0;clear HL hr HNo;go_wp2_with fail
      go_quiet (fail)
      go_wp2_with fail
      go_ret2
      refine ⟨by rw [HC.out];rfl,below_drawn ?_ _⟩;exact HB1.out.alloc HB1.out.size _
     ·have hrb:((letN k:Int)==(rr:Int))=false:=beq_eq_false_iff_ne.2 (by omega)
      have HR:=hid hr;obtain ⟨lk,hlk⟩:∃lk,letN k=lk:=⟨_,rfl⟩;rw [hlk] at c0 hrb;clear hr hlk;go_wp2_with fail
      go_roundw
      case rel =>
       refine ⟨k+1,by omega,by go_num,HLt.out.alloc _,HB1.out.alloc HB1.out.size _,fun j hj=>?_⟩
       rcases Nat.lt_or_ge j k with h|h
       ·exact HNo.out j h
       ·obtain rfl:j=k:=by omega
        exact HR.out
      case measure=>simp [intOf];omega
    ·obtain rfl:k=5:=by omega
     have HC:=hid (cut_none HL.out (letN_none HNo.out));have HB1:=hid hb;clear hL hb HL HNo;go_wp2_with fail
     go_ret2
     exact ⟨by rw [HC.out];rfl,HB1.out⟩
def clockR (l:List UInt8):(Int × Int) × Int:=if (offParseR (cutR l).1).2=0 then (((offParseR (cutR l).1).1,(cutR l).2),0) else ((0,0),(offParseR (cutR l).1).2)
theorem endR_err (mn:Bool) (o:Option Nat):(endR mn o).2=0∨(endR mn o).2=5∨(endR mn o).2=3:=by
 cases o with
 | none=>exact .inr (.inl rfl)
 | some x =>
  simp only [endR]
  split
  ·exact .inr (.inl rfl)
  ·split
   ·exact .inr (.inr rfl)
   ·exact .inl rfl
theorem offErr (l:List UInt8):(offParseR l).2=0∨(offParseR l).2=5∨(offParseR l).2=3:=by
 have:=endR_of ⟨l.toArray⟩ _ rfl;have e:(⟨l.toArray⟩:ByteArray).data.toList=l:=rfl;rw [e] at this;rw [this];exact endR_err _ _
theorem cut_len (l:List UInt8):(cutR l).1.length≤l.length:=by
 unfold cutR
 split
 ·simp
 ·exact Nat.le_refl _
theorem clockParse_any (s:ByteArray) (w:World) (hs:s.size≤1048576) (hU:Units w) (hE:ErrSyn w) :
 Calls Tryz.prog 164 #[.string s] w fun e w'=>e=.returned (.tuple #[.agg #[.int .i64 (clockR s.data.toList).1.1,.int .i64 (clockR s.data.toList).1.2],.int .i64 (clockR s.data.toList).2])∧Below w.heap.size w w':=by
 have hB0:Below w.heap.size w (w.alloc (.cells #[.int .i64 0,.int .i64 0] 52)):=(Below.refl _ _).alloc (Nat.le_refl _) _;have HR:=hid (show clockR s.data.toList=if (offParseR (cutR s.data.toList).1).2=0 then (((offParseR (cutR s.data.toList).1).1,(cutR s.data.toList).2),0) else ((0,0),(offParseR (cutR s.data.toList).1).2) from rfl);have hl:=cut_len s.data.toList;have HC:=hid (cut_any s (w.alloc (.cells #[.int .i64 0,.int .i64 0] 52)) hs);generalize cutR s.data.toList=c at *;obtain ⟨f,b⟩:=c
 have hf:(⟨f.toArray⟩:ByteArray).size≤1048576:=by
  have h1:f.length≤s.data.toList.length:=hl;have h2:s.data.toList.length=s.size:=by simp
  show f.length≤_
  omega
 have HO:=hid (fun W (hW:Below w.heap.size w W)=>offParse_any ⟨f.toArray⟩ W hf (hU.below hW) (hE.below hW));have e:(⟨f.toArray⟩:ByteArray).data.toList=f:=rfl;rw [e] at HO;have he:=offErr f;have HR:Hid (clockR s.data.toList=if (offParseR f).2=0 then (((offParseR f).1,b),0) else ((0,0),(offParseR f).2)):=HR;generalize offParseR f=o at *;obtain ⟨x,er⟩:=o;have he:er=0∨er=5∨er=3:=he;clear hU hE hl hf e
 go_enter Tryz.func164,Tryz.ntmps164;go_wp2_with fail
 refine HC.out.mono ?_;rintro e w1 ⟨rfl,hb1⟩;have b0:Blk w1 w.heap.size 52 #[.int .i64 0,.int .i64 0]:=(Blk.new' _ _ _ rfl).below hb1 (by simp);have hb1':=hB0.trans (hb1.mono (by simp));have HB1:=hid (And.intro b0 hb1');clear b0 hb1 hb1' HC hB0;go_wp2_with fail
 refine (HO.out _ HB1.out.2).mono ?_;rintro e w2 ⟨rfl,hb2⟩;have b0:=HB1.out.1.below hb2 HB1.out.1.lt;have HB2:=hid (And.intro b0 (HB1.out.2.trans (hb2.mono HB1.out.2.size)));have c0:=b0.cell_ (i:=0) rfl;have c1:=b0.cell_ (i:=1) rfl;have f0:=b0.frozen 0;have f1:=b0.frozen 1;clear b0 hb2 HB1 HO
 rcases he with rfl|rfl|rfl
 all_goals
  go_wp2_with fail
  refine bodyPost_ret (by simp [results,Tryz.results164,go_sem,c0,c1];rfl) rfl ⟨?_,?_⟩
  ·rw [HR.out];rfl
  ·have hBv:=HB2.out.2;go_grown
def clockOk (x b:Int):Bool:=decide (-604799≤x∧x≤604799)&&decide (0≤b∧b≤2)
theorem clockCheck_any (x b:Int) (w:World) :
 Calls Tryz.prog 62 #[.agg #[.int .i64 x,.int .i64 b]] w fun e w'=>e=.returned (.int .i64 (if clockOk x b=true then 0 else 2))∧Below w.heap.size w w':=by
 by_cases h:clockOk x b=true
 ·rw [if_pos h]
  simp only [clockOk,Bool.and_eq_true,decide_eq_true_eq] at h;obtain ⟨⟨h1,h2⟩,h3,h4⟩:=h
  go_enter Tryz.func62,Tryz.ntmps62
  go_wp2
  go_ret
  exact ⟨rfl,by go_grown⟩
 ·rw [if_neg h]
  simp only [clockOk,Bool.and_eq_true,decide_eq_true_eq] at h
  rcases (by omega:x < -604799∨(¬x < -604799∧604799<x)∨((¬x < -604799∧¬604799<x)∧b<0)∨((¬x < -604799∧¬604799<x)∧¬b<0∧2<b)) with h1|⟨h1,h2⟩|⟨⟨h1,h2⟩,h3⟩|⟨⟨h1,h2⟩,h3,h4⟩
  all_goals
   clear h
   go_enter Tryz.func62,Tryz.ntmps62
   go_wp2
   go_ret
   exact ⟨rfl,by go_grown⟩
theorem conv_join (ot:List UInt8) (c:UInt8):Ending.returned (.tuple #[.string (⟨ot.toArray⟩++⟨#[c]⟩),.int .i64 0])=.returned (.tuple #[.string ⟨(ot++[c]).toArray⟩,.int .i64 0]):=by
 rw [ba_append];simp
def clockT (x b:Int):List UInt8:=(if x<0 then [45] else [])++offT x.natAbs++(if b=1 then [115] else if b=2 then [117] else [])
def clockPrintR (x b:Int):List UInt8 × Int:=if clockOk x b=true then (clockT x b,0) else ([],2)
theorem twoT_len' (n:Nat) (h:n<60):(twoT n).length=2:=by
 have h':∀n:Fin 60,(twoT n.val).length=2:=by decide +kernel
 exact h' ⟨n,h⟩
theorem offT_len (n:Nat) (h:n≤604799):(offT n).length≤9:=by
 have h1:=dig_len (n / 3600) (by omega);have h2:=twoT_len' (n / 60 % 60) (by omega);have h3:=twoT_len' (n % 60) (by omega);unfold offT
 split<;>simp<;>omega
theorem offPrint_ok (x:Int) (h0 : -604799≤x) (h1:x≤604799):offPrintR x=((if x<0 then [45] else [])++offT x.natAbs,0):=if_neg (by omega)
theorem clockPrint_any (x b:Int) (w:World) (hP:Pows w) :
 Calls Tryz.prog 30 #[.agg #[.int .i64 x,.int .i64 b]] w fun e w'=>e=.returned (.tuple #[.string ⟨(clockPrintR x b).1.toArray⟩,.int .i64 (clockPrintR x b).2])∧Below w.heap.size w w':=by
 have hB0:Below w.heap.size w (w.alloc (.cells #[.int .i64 x,.int .i64 b] 52)):=(Below.refl _ _).alloc (Nat.le_refl _) _;have HC:=hid (clockCheck_any x b (w.alloc (.cells #[.int .i64 x,.int .i64 b] 52)))
 by_cases h:clockOk x b=true
 ·rw [if_pos h] at HC
  have HR:=hid (show clockPrintR x b=(clockT x b,0) from if_pos h);simp only [clockOk,Bool.and_eq_true,decide_eq_true_eq] at h;obtain ⟨⟨h1,h2⟩,h3,h4⟩:=h;have HO:=hid (fun W (hW:Below w.heap.size w W)=>offPrint_any x W (hP.below hW));simp only [offPrint_ok x h1 h2] at HO;have hol:=offT_len x.natAbs (by omega);have HT:=hid (show clockT x b=((if x<0 then [45] else [])++offT x.natAbs)++(if b=1 then [115] else if b=2 then [117] else []) from rfl);have hol2:((if x<0 then [45] else [])++offT x.natAbs:List UInt8).length≤10:=by split<;>simp<;>omega
  generalize ((if x<0 then [45] else [])++offT x.natAbs:List UInt8)=ot at *;clear hP hol
  go_enter Tryz.func30,Tryz.ntmps30;go_wp2_with fail
  refine HC.out.mono ?_;rintro e w1 ⟨rfl,hb1⟩;have b0:Blk w1 w.heap.size 52 #[.int .i64 x,.int .i64 b]:=(Blk.new' _ _ _ rfl).below hb1 (by simp);have c0:=b0.cell_ (i:=0) rfl;have HB1:=hid (And.intro b0 (hB0.trans (hb1.mono (by simp))));clear b0 hb1 hB0 HC;go_wp2_with fail
  refine (HO.out _ HB1.out.2).mono ?_;rintro e w2 ⟨rfl,hb2⟩;have HB2:=hid (And.intro (HB1.out.1.below hb2 HB1.out.1.lt) (HB1.out.2.trans (hb2.mono HB1.out.2.size)));clear hb2 HB1 c0 HO;go_wp2_with fail
  refine (letters_any _).mono ?_;rintro e w3 ⟨rfl,h3w⟩;have HLt:=hid (show LettersAt w3 w2.heap.size from h3w ▸ Blk.new' _ _ _ rfl);have HB3:=hid (show Blk w3 w.heap.size 52 #[.int .i64 x,.int .i64 b]∧Below w.heap.size w w3 from h3w ▸ ⟨HB2.out.1.alloc _,HB2.out.2.alloc HB2.out.2.size _⟩);generalize w2.heap.size=gL at *;clear h3w HB2;go_wp2_with fail
  go_loopw [25] (fun i wr=>∃k:Nat,k≤5∧i=.int .i64 (k:Int)∧LettersAt wr gL∧Blk wr w.heap.size 52 #[.int .i64 x,.int .i64 b]∧Below w.heap.size w wr∧Aside (∀j,j<k→¬(baseN j=b∧b≠0))) (fun i _=>5-(intOf i).toNat)
  case atStart=>exact ⟨0,by omega,rfl,HLt.out,HB3.out.1,HB3.out.2,fun j hj=>absurd hj (by omega)⟩
  case round =>
   obtain ⟨k,hk,rfl,hL,hC,hb,hno⟩:=hrel;have HNo:=hid hno.out;clear hno HLt HB3
   by_cases hlt:k<5
   ·obtain ⟨c0,c1⟩:=hL.at_ k hlt
    have hz1:=hL.lt;have hz2:=hC.lt;have d1:=hC.cell_ (i:=1) rfl;have HLt:=hid hL;have HB1:=hid (And.intro hC hb);clear hL hb hC;have hk2:k<5:=hlt;have e115:Utf8.encode 115=⟨#[115]⟩:=by decide +kernel
    have e117:Utf8.encode 117=⟨#[117]⟩:=by decide +kernel
    rcases (by omega:b=0∨b=1∨b=2) with rfl|rfl|rfl
    all_goals rcases (by omega:k=0∨k=1∨k=2∨k=3∨k=4) with rfl|rfl|rfl|rfl|rfl
    all_goals simp only [letN,baseN,List.getD_cons_zero,List.getD_cons_succ,Nat.zero_mul,Nat.one_mul,Nat.zero_add] at c0 c1
    all_goals first
     | exact absurd ⟨rfl,by decide⟩ (HNo.out 1 (by decide))
     | exact absurd ⟨rfl,by decide⟩ (HNo.out 2 (by decide))
     | (go_wp2_with fail
        go_ret2
        refine ⟨?_,HB1.out.2.alloc HB1.out.2.size _⟩;rw [HR.out,HT.out];exact conv_join _ _)
     | (go_wp2_with fail
        go_roundw
        case rel =>
         refine ⟨_,by decide,rfl,HLt.out.alloc _,HB1.out.1.alloc _,HB1.out.2.alloc HB1.out.2.size _,?_⟩
         show ∀j,j<_→¬_
         decide
        case measure=>simp [intOf])
   ·obtain rfl:k=5:=by omega
    have HB1:=hid hb
    have hbz:b=0:=by
     have h1:=HNo.out 1 (by decide);have h2:=HNo.out 2 (by decide);simp only [baseN,List.getD_cons_zero,List.getD_cons_succ] at h1 h2
     omega
    subst hbz;clear hL hb hC HNo;go_wp2_with fail
    go_ret2
    refine ⟨?_,HB1.out⟩;rw [HR.out,HT.out]
    simp
 ·rw [if_neg h] at HC
  have HR:=hid (show clockPrintR x b=([],2) from if_neg h);clear hP h
  go_enter Tryz.func30,Tryz.ntmps30;go_wp2_with fail
  refine HC.out.mono ?_;rintro e w1 ⟨rfl,hb1⟩;have HB1:=hid (hB0.trans (hb1.mono (by simp)));clear hb1 hB0;go_wp2_with fail
  go_ret2
  exact ⟨by rw [HR.out];rfl,HB1.out⟩
def rowOf (f:Nat→Nat):Array Value:=(Array.range 256).map fun c=>.int .u8 (f c:Int)
theorem rowOf_size (f:Nat→Nat):(rowOf f).size=256:=by simp [rowOf]
theorem rowOf_at (f:Nat→Nat) (i:Nat) (h:i<256):(rowOf f)[i]? = some (.int .u8 (f i:Int)):=by
 simp [rowOf,h]
theorem rowOf_none (f:Nat→Nat) (i:Nat) (h:¬i<256):(rowOf f)[i]? = none:=Array.getElem?_eq_none (by rw [rowOf_size];omega)
theorem rowOf_set (f:Nat→Nat) (i x:Nat) (h:i<256) (g:Nat→Nat) (hg:∀c,c<256→g c=if c=i then x else f c):(rowOf f).setIfInBounds i (.int .u8 (x:Int))=rowOf g:=by
 apply Array.ext_getElem?
 intro j;rw [Array.getElem?_setIfInBounds,rowOf_size,if_pos h]
 by_cases hj:j<256
 ·rw [rowOf_at _ _ hj,rowOf_at _ _ hj,hg j hj]
  by_cases e:i=j
  ·rw [if_pos e,if_pos e.symm]
  ·rw [if_neg e,if_neg (fun k=>e k.symm)]
 ·rw [rowOf_none _ _ hj,rowOf_none _ _ hj,if_neg (by omega)]
def letTo (k c:Nat):Nat:=if (65≤c∧c<65+k)∨(97≤c∧c<97+k) then 1 else 0
def digTo (k c:Nat):Nat:=if 48≤c∧c<48+k then 2 else letTo 26 c
def kindN (c:Nat):Nat:=if c=95 then 4 else if c=45 then 8 else if c=46∨c=43 then 16 else digTo 10 c
theorem Blk.there {w:World} {g:Nat} {t:TypeId} {cs:Array Value} (h:Blk w g t cs) {n:Nat} (hn:n≤cs.size):w.there g 0 n:=fun j hj=>by
 rw [Nat.zero_add];exact ⟨by rw [h.cell,Array.getElem?_eq_getElem (by omega)];rfl,h.frozen j⟩
theorem Blk.sets {g:Nat} {t:TypeId} : ∀(vs:List Value) (o:Nat) (w:World) (cs:Array Value),Blk w g t cs→o+vs.length≤cs.size →
 ∃cs',Blk (w.setCells g o vs) g t cs'∧∀j,cs'[j]? = if o≤j∧j<o+vs.length then vs[j-o]? else cs[j]?
 | [],o,w,cs,h,_=>⟨cs,h,fun j=>by rw [if_neg (by simp only [List.length_nil];omega)]⟩
 | v::vs,o,w,cs,h,hl=>by
  simp only [List.length_cons] at hl;obtain ⟨cs',h1,h2⟩:=Blk.sets vs (o+1) (w.setCell ⟨g,o,none⟩ v) (cs.setIfInBounds o v) (h.set_ o v) (by simp;omega);refine ⟨cs',h1,fun j=>?_⟩;rw [h2 j,Array.getElem?_setIfInBounds];simp only [List.length_cons]
  by_cases h3:o+1≤j∧j<o+1+vs.length
  ·rw [if_pos h3,if_pos (by omega),show j-o=(j-(o+1))+1 by omega,List.getElem?_cons_succ]
  ·rw [if_neg h3]
   by_cases h4:o=j
   ·subst h4
    have ho:o<cs.size:=by omega
    simp [ho]
   ·rw [if_neg h4,if_neg (by omega)]
theorem Blk.setAll {w:World} {g:Nat} {t:TypeId} {cs:Array Value} (h:Blk w g t cs) (cs':Array Value) (hs:cs'.size=cs.size):Blk (w.setCells g 0 cs'.toList) g t cs':=by
 obtain ⟨c,h1,h2⟩:=Blk.sets cs'.toList 0 w cs h (by simp [hs])
 have e:c=cs':=by
  apply Array.ext_getElem?
  intro j;rw [h2 j];simp only [Nat.zero_add,Array.length_toList,Nat.sub_zero,Array.getElem?_toList]
  by_cases hj:j<cs'.size
  ·rw [if_pos ⟨by omega,hj⟩]
  ·rw [if_neg (by omega),Array.getElem?_eq_none (by omega),Array.getElem?_eq_none (by omega)]
 rw [e] at h1;exact h1
theorem below_sets {B:Nat} {a:World} {g:Nat} (hg:B≤g):∀(vs:List Value) (o:Nat) (w:World),Below B a w→Below B a (w.setCells g o vs)
 | [],_,_,h=>h
 | v::vs,o,w,h=>below_sets hg vs (o+1) _ (h.setCell hg v)
theorem row_one (f:Nat→Nat):(rowOf f).all (·.oneCell')=true:=by
 rw [Array.all_eq_true];intro i hi;simp only [rowOf,Array.getElem_map]
 rfl
theorem info256:(Tryz.prog.info? 176).map (·.size)=some 256:=by kernel_rfl
theorem zero_row:Tryz.zeroCells176=rowOf (letTo 0):=by
 have h:rowOf (letTo 0)=rowOf fun _=>0:=by
  unfold rowOf
  congr 1
  funext c
  congr 1
  unfold letTo;rw [if_neg (by omega)]
 exact (show Tryz.zeroCells176=rowOf fun _=>0 by kernel_rfl).trans h.symm
theorem let_step (k:Nat) (hk:k<26):((rowOf (letTo k)).setIfInBounds (65+k) (.int .u8 1)).setIfInBounds (97+k) (.int .u8 1)=rowOf (letTo (k+1)):=by
 rw [show (Value.int .u8 1)=.int .u8 ((1:Nat):Int) from rfl];rw [rowOf_set (letTo k) (65+k) 1 (by omega) (fun c=>if c=65+k then 1 else letTo k c) (fun c _=>rfl)];refine rowOf_set _ (97+k) 1 (by omega) _ (fun c _=>?_);simp only [letTo]
 split<;>split<;>(try split)<;>(try split)<;>omega
theorem dig_step (k:Nat) (hk:k<10):(rowOf (digTo k)).setIfInBounds (48+k) (.int .u8 2)=rowOf (digTo (k+1)):=by
 rw [show (Value.int .u8 2)=.int .u8 ((2:Nat):Int) from rfl];refine rowOf_set _ (48+k) 2 (by omega) _ (fun c _=>?_);simp only [digTo]
 by_cases h1:c=48+k
 ·rw [if_pos (by omega),if_pos h1]
 ·rw [if_neg h1]
  by_cases h2:48≤c∧c<48+k
  ·rw [if_pos (by omega),if_pos h2]
  ·rw [if_neg (by omega),if_neg h2]
theorem last_step:((((rowOf (digTo 10)).setIfInBounds 95 (.int .u8 4)).setIfInBounds 45 (.int .u8 8)).setIfInBounds 46 (.int .u8 16)).setIfInBounds 43 (.int .u8 16)=rowOf kindN:=by
 rw [show (Value.int .u8 4)=.int .u8 ((4:Nat):Int) from rfl,show (Value.int .u8 8)=.int .u8 ((8:Nat):Int) from rfl,show (Value.int .u8 16)=.int .u8 ((16:Nat):Int) from rfl];rw [rowOf_set (digTo 10) 95 4 (by omega) (fun c=>if c=95 then 4 else digTo 10 c) (fun c _=>rfl)];rw [rowOf_set _ 45 8 (by omega) (fun c=>if c=45 then 8 else if c=95 then 4 else digTo 10 c) (fun c _=>rfl)];rw [rowOf_set _ 46 16 (by omega) (fun c=>if c=46 then 16 else if c=45 then 8 else if c=95 then 4 else digTo 10 c) (fun c _=>rfl)];refine rowOf_set _ 43 16 (by omega) _ (fun c _=>?_);simp only [kindN]
 by_cases h1:c=43
 ·subst h1;rfl
 ·rw [if_neg h1]
  by_cases h2:c=46
  ·subst h2;rfl
  ·rw [if_neg h2,if_neg (show ¬(c=46∨c=43) by omega)]
   by_cases h3:c=45
   ·subst h3;rfl
   ·rw [if_neg h3,if_neg h3]
theorem kinds_any (w:World) :
 Calls Tryz.prog 101 #[] w fun e w'=>e=.returned (.agg (rowOf kindN))∧Below w.heap.size w w':=by
 go_enter Tryz.func101,Tryz.ntmps101;go_wp2_with fail
 have HB0:=hid (show Blk ((w.alloc (.cells Tryz.zeroCells176 176)).alloc (.cells Tryz.zeroCells176 176)) (w.heap.size+1) 176 (rowOf (letTo 0)) by rw [←zero_row];exact Blk.new' _ _ _ (by simp));have HA0:=hid (show Blk ((w.alloc (.cells Tryz.zeroCells176 176)).alloc (.cells Tryz.zeroCells176 176)) w.heap.size 176 (rowOf (letTo 0)) by rw [←zero_row];exact (Blk.new' _ _ _ rfl).alloc _);have HW0:=hid (show Below w.heap.size w ((w.alloc (.cells Tryz.zeroCells176 176)).alloc (.cells Tryz.zeroCells176 176)) from ((Below.refl _ _).alloc (Nat.le_refl _) _).alloc (by simp) _);generalize (w.alloc (.cells Tryz.zeroCells176 176)).alloc (.cells Tryz.zeroCells176 176)=W0 at *
 go_loopw [4] (fun i wr=>∃k:Nat,k≤26∧i=.int .i64 (k:Int)∧Blk wr (w.heap.size+1) 176 (rowOf (letTo k))∧Blk wr w.heap.size 176 (rowOf (letTo 0))∧Below w.heap.size w wr) (fun i _=>26-(intOf i).toNat)
 case atStart=>exact ⟨0,by omega,rfl,HB0.out,HA0.out,HW0.out⟩
 case round =>
  obtain ⟨k,hk,rfl,hB,hA,hb⟩:=hrel;clear HB0 HA0 HW0
  by_cases hlt:k<26
  ·have hi:(k:Int)<26:=by omega
   have c1:wr.cell? ⟨w.heap.size+1,65+k,none⟩=some (.int .u8 (letTo k (65+k):Int)):=hB.cell_ (rowOf_at _ _ (by omega));have f1:=hB.frozen (65+k);have c2:wr.cell? ⟨w.heap.size+1,97+k,none⟩=some (.int .u8 (letTo k (97+k):Int)):=hB.cell_ (rowOf_at _ _ (by omega));have f2:=hB.frozen (97+k);have t1:(65+(k:Int)).toNat=65+k:=by omega
   have t2:(97+(k:Int)).toNat=97+k:=by omega
   generalize letTo k (65+k)=v1 at *;generalize letTo k (97+k)=v2 at *;have HB:=hid hB;have HA:=hid hA;have Hb:=hid hb;clear hB hA hb;go_wp2_with fail
   refine ⟨⟨k+1,by omega,by go_num,?_,(HA.out.far (by show w.heap.size≠w.heap.size+1;omega) _).far (by show w.heap.size≠w.heap.size+1;omega) _,(Hb.out.setCell (by show w.heap.size≤w.heap.size+1;omega) _).setCell (by show w.heap.size≤w.heap.size+1;omega) _⟩,by simp [intOf];omega⟩;rw [←let_step k hlt];exact (HB.out.set_ _ _).set_ _ _
  ·obtain rfl:k=26:=by omega
   have HB:=hid (show Blk wr (w.heap.size+1) 176 (rowOf (digTo 0)) by
    rw [show digTo 0=letTo 26 from funext fun c=>if_neg (by omega)];exact hB)
   have HA:=hid hA;have Hb:=hid hb;clear hB hA hb;go_wp2_with fail
   obtain ⟨W1,hW1⟩:∃W1,W1=wr:=⟨_,rfl⟩;subst hW1
   go_loopw [14] (fun i wr=>∃k:Nat,k≤10∧i=.int .i64 (k:Int)∧Blk wr (w.heap.size+1) 176 (rowOf (digTo k))∧Blk wr w.heap.size 176 (rowOf (letTo 0))∧Below w.heap.size w wr) (fun i _=>10-(intOf i).toNat)
   case atStart=>exact ⟨0,by omega,rfl,HB.out,HA.out,Hb.out⟩
   case round =>
    obtain ⟨k,hk,rfl,hB,hA,hb⟩:=hrel;clear HB HA Hb
    by_cases hlt:k<10
    ·have hi:(k:Int)<10:=by omega
     have c1:wr.cell? ⟨w.heap.size+1,48+k,none⟩=some (.int .u8 (digTo k (48+k):Int)):=hB.cell_ (rowOf_at _ _ (by omega));have f1:=hB.frozen (48+k);have t1:(48+(k:Int)).toNat=48+k:=by omega
     generalize digTo k (48+k)=v1 at *;have HB:=hid hB;have HA:=hid hA;have Hb:=hid hb;clear hB hA hb;go_wp2_with fail
     refine ⟨⟨k+1,by omega,by go_num,?_,HA.out.far (by show w.heap.size≠w.heap.size+1;omega) _,Hb.out.setCell (by show w.heap.size≤w.heap.size+1;omega) _⟩,by simp [intOf];omega⟩;rw [←dig_step k hlt];exact HB.out.set_ _ _
    ·obtain rfl:k=10:=by omega
     have c1:wr.cell? ⟨w.heap.size+1,95,none⟩=some (.int .u8 (digTo 10 95:Int)):=hB.cell_ (rowOf_at _ _ (by omega));have c2:wr.cell? ⟨w.heap.size+1,45,none⟩=some (.int .u8 (digTo 10 45:Int)):=hB.cell_ (rowOf_at _ _ (by omega));have c3:wr.cell? ⟨w.heap.size+1,46,none⟩=some (.int .u8 (digTo 10 46:Int)):=hB.cell_ (rowOf_at _ _ (by omega));have c4:wr.cell? ⟨w.heap.size+1,43,none⟩=some (.int .u8 (digTo 10 43:Int)):=hB.cell_ (rowOf_at _ _ (by omega));have f1:=hB.frozen 95;have f2:=hB.frozen 45;have f3:=hB.frozen 46;have f4:=hB.frozen 43;have HB:=hid hB;have HA:=hid hA;have Hb:=hid hb;clear hB hA hb;have hrs:(Tryz.prog.info? 176).map (·.size)=some (rowOf kindN).size:=by rw [rowOf_size];exact info256
     have HK:=hid (show Blk ((((wr.setCell ⟨w.heap.size+1,95,none⟩ (.int .u8 4)).setCell ⟨w.heap.size+1,45,none⟩ (.int .u8 8)).setCell ⟨w.heap.size+1,46,none⟩ (.int .u8 16)).setCell ⟨w.heap.size+1,43,none⟩ (.int .u8 16)) (w.heap.size+1) 176 (rowOf kindN) by
      rw [←last_step];exact (((HB.out.set_ _ _).set_ _ _).set_ _ _).set_ _ _)
     have HA2:=hid (show Blk ((((wr.setCell ⟨w.heap.size+1,95,none⟩ (.int .u8 4)).setCell ⟨w.heap.size+1,45,none⟩ (.int .u8 8)).setCell ⟨w.heap.size+1,46,none⟩ (.int .u8 16)).setCell ⟨w.heap.size+1,43,none⟩ (.int .u8 16)) w.heap.size 176 (rowOf (letTo 0)) from
      (((HA.out.far (by show w.heap.size≠w.heap.size+1;omega) _).far (by show w.heap.size≠w.heap.size+1;omega) _).far (by show w.heap.size≠w.heap.size+1;omega) _).far (by show w.heap.size≠w.heap.size+1;omega) _)
     have Hb2:=hid (show Below w.heap.size w ((((wr.setCell ⟨w.heap.size+1,95,none⟩ (.int .u8 4)).setCell ⟨w.heap.size+1,45,none⟩ (.int .u8 8)).setCell ⟨w.heap.size+1,46,none⟩ (.int .u8 16)).setCell ⟨w.heap.size+1,43,none⟩ (.int .u8 16)) from
      (((Hb.out.setCell (by show w.heap.size≤w.heap.size+1;omega) _).setCell (by show w.heap.size≤w.heap.size+1;omega) _).setCell (by show w.heap.size≤w.heap.size+1;omega) _).setCell (by show w.heap.size≤w.heap.size+1;omega) _)
     go_upto_region 13 with fail
     generalize (((wr.setCell ⟨w.heap.size+1,95,none⟩ (.int .u8 4)).setCell ⟨w.heap.size+1,45,none⟩ (.int .u8 8)).setCell ⟨w.heap.size+1,46,none⟩ (.int .u8 16)).setCell ⟨w.heap.size+1,43,none⟩ (.int .u8 16)=W2 at *
     go_wp2_with (first
      | (refine wpList_load_row rfl 176 (.tmp 1) rfl (w.heap.size+1) rfl 176 (rowOf kindN) (0,0) _ HK.out Tryz.underlying176 rfl hrs ?_)
      | (refine wpList_store_mid rfl 176 (.tmp 0) (.tmp 25) rfl w.heap.size 0 (rowOf kindN) rfl rfl (HA2.out.there (by rw [rowOf_size,rowOf_size];exact Nat.le_refl _)) hrs (row_one _) ?_))
     refine bodyPost_ret (results_cell_row rfl _ _ w.heap.size 176 (rowOf kindN) (0,0) _ rfl (HA2.out.setAll (rowOf kindN) (by rw [rowOf_size,rowOf_size])) Tryz.underlying176 rfl hrs) rfl ⟨rfl,below_sets (Nat.le_refl _) _ _ _ Hb2.out⟩
theorem kindN_lt (x:Nat):kindN x<32:=by
 unfold kindN digTo letTo
 repeat' split
 all_goals omega
theorem and_fin:∀a:Fin 32,∀b:Fin 256,(bits BinOp.and IntKind.u8 (a.val:Int) (b.val:Int)==0)=(a.val &&& b.val==0):=by decide +kernel
theorem and_zero {a b:Nat} (ha:a<32) (hb:b<256) (h:a &&& b=0):(bits BinOp.and IntKind.u8 (a:Int) (b:Int)==0)=true:=by
 have:=and_fin ⟨a,ha⟩ ⟨b,hb⟩;simp only at this;rw [this,h];rfl
theorem and_some {a b:Nat} (ha:a<32) (hb:b<256) (h:¬a &&& b=0):(bits BinOp.and IntKind.u8 (a:Int) (b:Int)==0)=false:=by
 have:=and_fin ⟨a,ha⟩ ⟨b,hb⟩;simp only at this;rw [this];exact beq_eq_false_iff_ne.2 h
theorem take_snoc' (s:ByteArray) (k:Nat) (h:k<s.size):s.data.toList.take (k+1)=s.data.toList.take k++[s[k]]:=by
 rw [List.take_succ_eq_append_getElem (by simpa using h)];rfl
def ofB (least most sm:Nat) (l:List UInt8):Bool:=decide (least≤l.length∧l.length≤most)&&l.all fun c=>kindN c.toNat &&& sm != 0
def IsOf (w:World) (v:Value) (least most sm:Nat):Prop:=∃a b c d:Nat,v=.func (.func 102) #[] #[.pointer (some ⟨a,0,none⟩),.pointer (some ⟨b,0,none⟩),.pointer (some ⟨c,0,none⟩),.pointer (some ⟨d,0,none⟩)] ∧
 w.cell? ⟨a,0,none⟩=some (.int .i64 (least:Int))∧w.cell? ⟨b,0,none⟩=some (.int .i64 (most:Int))∧Blk w c 176 (rowOf kindN)∧w.cell? ⟨d,0,none⟩=some (.int .u8 (sm:Int))
theorem of_any (least most sm:Nat) (w:World) :
 Calls Tryz.prog 66 #[.int .i64 (least:Int),.int .i64 (most:Int),.int .u8 (sm:Int)] w fun e w'=>(∃v,e=.returned v∧IsOf w' v least most sm)∧Below w.heap.size w w':=by
 go_enter Tryz.func66,Tryz.ntmps66;go_wp2_with fail
 refine (kinds_any _).mono ?_;rintro e w1 ⟨rfl,hb1⟩;have hB0:Below w.heap.size w (((w.alloc (.cells #[.int .i64 (least:Int)] 3)).alloc (.cells #[.int .i64 (most:Int)] 3)).alloc (.cells #[.int .u8 (sm:Int)] 5)):=(((Below.refl _ _).alloc (Nat.le_refl _) _).alloc (by simp) _).alloc (by simp;omega) _;have b0:Blk w1 w.heap.size 3 #[.int .i64 (least:Int)]:=(((Blk.new' _ _ _ rfl).alloc _).alloc _).below hb1 (by simp;omega);have b1:Blk w1 (w.heap.size+1) 3 #[.int .i64 (most:Int)]:=((Blk.new' _ _ _ (by simp)).alloc _).below hb1 (by simp);have b2:Blk w1 (w.heap.size+1+1) 5 #[.int .u8 (sm:Int)]:=(Blk.new' _ _ _ (by simp)).below hb1 (by simp);have HB:=hid (And.intro b0 (And.intro b1 (And.intro b2 (hB0.trans (hb1.mono (by simp;omega))))));clear hb1 hB0 b0 b1 b2;have hrs:(Tryz.prog.info? 176).map (·.size)=some (rowOf kindN).size:=by rw [rowOf_size];exact info256
 have HZ:=hid (show Blk (w1.alloc (.cells Tryz.zeroCells176 176)) w1.heap.size 176 (rowOf (letTo 0)) by rw [←zero_row];exact Blk.new' _ _ _ rfl);go_wp2_with (refine wpList_store_mid rfl 176 (.tmp 7) (.tmp 8) rfl w1.heap.size 0 (rowOf kindN) rfl rfl (HZ.out.there (by rw [rowOf_size,rowOf_size];exact Nat.le_refl _)) hrs (row_one _) ?_)
 go_ret
 obtain ⟨b0,b1,b2,hB⟩:=HB.out;have hlt:=b0.lt
 have keep:∀ {g:Nat} {t:TypeId} {cs:Array Value},Blk w1 g t cs→Blk ((w1.alloc (.cells Tryz.zeroCells176 176)).setCells w1.heap.size 0 (rowOf kindN).toList) g t cs:=fun {g t cs} h =>
  h.below (B:=w1.heap.size) (below_sets (Nat.le_refl _) _ _ _ ((Below.refl _ _).alloc (Nat.le_refl _) _)) h.lt
 exact ⟨⟨_,rfl,_,_,_,_,rfl,(keep b0).cell_ rfl,(keep b1).cell_ rfl,HZ.out.setAll (rowOf kindN) (by rw [rowOf_size,rowOf_size]),(keep b2).cell_ rfl⟩,below_sets (by omega) _ _ _ (hB.alloc hB.size _)⟩
theorem of1_any (least most sm:Nat) (s:ByteArray) (a b c d:Nat) (w:World) (hsm:sm<256) (hs:s.size≤1048576) (ha:w.cell? ⟨a,0,none⟩=some (.int .i64 (least:Int))) (hb:w.cell? ⟨b,0,none⟩=some (.int .i64 (most:Int)))
 (hc:Blk w c 176 (rowOf kindN)) (hd:w.cell? ⟨d,0,none⟩=some (.int .u8 (sm:Int))) :
 Calls Tryz.prog 102 #[.string s,.pointer (some ⟨a,0,none⟩),.pointer (some ⟨b,0,none⟩),.pointer (some ⟨c,0,none⟩),.pointer (some ⟨d,0,none⟩)] w fun e w'=>e=.returned (.bool (ofB least most sm s.data.toList))∧∃n,w'=w.drewN n:=by
 by_cases h1:(s.size:Int)<(least:Int)
 ·have HR:=hid (show ofB least most sm s.data.toList=false by simp [ofB];omega)
  go_enter Tryz.func102,Tryz.ntmps102;go_wp2_with fail
  go_ret
  exact ⟨by rw [HR.out];rfl,0,rfl⟩
 by_cases h2:(most:Int)<(s.size:Int)
 ·have HR:=hid (show ofB least most sm s.data.toList=false by simp [ofB];omega)
  go_enter Tryz.func102,Tryz.ntmps102;go_wp2_with fail
  go_ret
  exact ⟨by rw [HR.out];rfl,0,rfl⟩
 go_enter Tryz.func102,Tryz.ntmps102;go_wp2_with fail
 go_loopw [20] (fun i wr=>∃k n:Nat,k≤s.size∧i=.int .i64 (k:Int)∧Aside ((s.data.toList.take k).all (fun c=>kindN c.toNat &&& sm != 0)=true)∧wr=w.drewN n) (fun i _=>s.size-(intOf i).toNat)
 case atStart=>exact ⟨0,0,by omega,rfl,by simp [Aside],rfl⟩
 case round =>
  obtain ⟨k,n,hk,rfl,hall,rfl⟩:=hrel
  by_cases hlt:k<s.size
  ·obtain ⟨x,hx⟩:∃x:Nat,x=(s[k]'hlt).toNat:=⟨_,rfl⟩
   have g0:∀h,(s[k]'h).toNat=x:=fun _=>hx.symm
   have hx256:x<256:=by rw [hx];exact (s[k]'hlt).toNat_lt
   have hcx:w.cell? ⟨c,x,none⟩=some (.int .u8 (kindN x:Int)):=hc.cell_ (rowOf_at _ _ hx256);have x0:(0:Int)≤(x:Int):=by omega
   have x1:(x:Int)<256:=by omega
   have k0:(0:Int)≤(k:Int):=by omega
   have k1:(k:Int)<(s.size:Int):=by omega
   have HX:=hid hx;have HC:=hid hc;generalize hkv:kindN x=kv at *;have HKV:=hid hkv;clear hx hc hkv;have hkv32:kv<32:=by rw [←HKV.out];exact kindN_lt x
   have HT:=hid (take_snoc' s k hlt)
   by_cases hz:kv &&& sm=0
   ·have hbz:=and_zero hkv32 hsm hz
    have HR:=hid (show ofB least most sm s.data.toList=false by
     rw [ofB,Bool.and_eq_false_iff];refine .inr ?_;rw [←List.take_append_drop (k+1) s.data.toList,HT.out,List.all_append,List.all_append];simp only [List.all_cons,List.all_nil,←HX.out,HKV.out,hz]
     simp)
    go_wp2_with fail
    go_quiet (fail)
    go_wp2_with fail
    go_ret
    exact ⟨by rw [HR.out];rfl,n+nq,by simp [World.drewN,Nat.add_assoc]⟩
   ·have hbz:=and_some hkv32 hsm hz
    go_wp2_with fail
    go_quiet (fail)
    go_wp2_with fail
    go_roundw
    case rel =>
     refine ⟨k+1,n+nq,by omega,by go_num,?_,by simp [World.drewN]⟩
     show (List.take (k+1) s.data.toList).all _=true
     rw [HT.out,List.all_append];simp only [List.all_cons,List.all_nil,←HX.out,HKV.out];have h:(List.take k s.data.toList).all (fun c=>kindN c.toNat &&& sm != 0)=true:=hall;rw [h]
     simp [hz]
    case measure=>simp [intOf];omega
  ·obtain rfl:k=s.size:=by omega
   have HR:=hid (show ofB least most sm s.data.toList=true by
    rw [ofB,Bool.and_eq_true];refine ⟨by simp;omega,?_⟩;have h:(List.take s.size s.data.toList).all (fun c=>kindN c.toNat &&& sm != 0)=true:=hall;rwa [List.take_of_length_le (by simp)] at h)
   clear hall;go_wp2_with fail
   go_ret
   exact ⟨by rw [HR.out];rfl,n,rfl⟩
theorem ofv_any {least most sm:Nat} {v:Value} {w:World} (h:IsOf w v least most sm) (s:ByteArray) (hsm:sm<256) (hs:s.size≤1048576) :
 ∃a b c d:Nat,v=.func (.func 102) #[] #[.pointer (some ⟨a,0,none⟩),.pointer (some ⟨b,0,none⟩),.pointer (some ⟨c,0,none⟩),.pointer (some ⟨d,0,none⟩)]∧∀w',Below w.heap.size w w' →
 Calls Tryz.prog 102 #[.string s,.pointer (some ⟨a,0,none⟩),.pointer (some ⟨b,0,none⟩),.pointer (some ⟨c,0,none⟩),.pointer (some ⟨d,0,none⟩)] w' fun e w''=>e=.returned (.bool (ofB least most sm s.data.toList))∧Below w'.heap.size w' w'':=by
 obtain ⟨a,b,c,d,rfl,h1,h2,h3,h4⟩:=h;refine ⟨a,b,c,d,rfl,fun w' hb=>?_⟩;refine (of1_any least most sm s a b c d w' hsm hs ((hb.cell (block_lt_of_cell h1)).trans h1) ((hb.cell (block_lt_of_cell h2)).trans h2) (h3.below hb h3.lt) ((hb.cell (block_lt_of_cell h4)).trans h4)).mono ?_;rintro e w'' ⟨he,n,rfl⟩;exact ⟨he,below_drawn (Below.refl _ _) n⟩
theorem letter_any (s:ByteArray) (w:World) (hs:s.size≤1048576) :
 Calls Tryz.prog 34 #[.string s] w fun e w'=>e=.returned (.bool (ofB 1 4 1 s.data.toList))∧Below w.heap.size w w':=by
 have HO:=hid (of_any 1 4 1 w);obtain ⟨r,hr⟩:∃r,ofB 1 4 1 s.data.toList=r:=⟨_,rfl⟩;rw [hr];have HR:=hid hr;clear hr
 go_enter Tryz.func34,Tryz.ntmps34;go_wp2_with fail
 refine HO.out.mono ?_;rintro e w1 ⟨⟨v,rfl,hv⟩,hb1⟩;obtain ⟨a,b,c,d,rfl,hc⟩:=ofv_any hv s (by decide) hs;rw [HR.out] at hc;have HC:=hid (hc w1 (Below.refl _ _));have HB:=hid hb1;clear hc hv hb1 HO;go_wp2_with fail
 refine HC.out.mono ?_;rintro e w2 ⟨rfl,hb2⟩;have HB2:=hid (HB.out.trans (hb2.mono HB.out.size));clear hb2 HB;go_wp2_with fail
 go_ret
 exact ⟨rfl,HB2.out⟩
theorem below_undrew {w w':World} (h:Below w.drew.heap.size w.drew w'):Below w.heap.size w w':=(Below.refl _ w).drew.trans h
def setB (l:List UInt8):Bool:=ofB 1 30 15 l&&ofB 1 1 1 (l.take 1)
theorem set_any (s:ByteArray) (w:World) (hs:s.size≤1048576) :
 Calls Tryz.prog 32 #[.string s] w fun e w'=>e=.returned (.bool (setB s.data.toList))∧Below w.heap.size w w':=by
 have HO:=hid (show ∀W,Calls Tryz.prog 66 #[.int .i64 1,.int .i64 30,.int .u8 15] W fun e w'=>(∃v,e=.returned v∧IsOf w' v 1 30 15)∧Below W.heap.size W w' from fun W=>of_any 1 30 15 W);have HO2:=hid (show ∀W,Calls Tryz.prog 66 #[.int .i64 1,.int .i64 1,.int .u8 1] W fun e w'=>(∃v,e=.returned v∧IsOf w' v 1 1 1)∧Below W.heap.size W w' from fun W=>of_any 1 1 1 W);obtain ⟨r,hr⟩:∃r,ofB 1 30 15 s.data.toList=r:=⟨_,rfl⟩;have HR:=hid hr
 cases r with
 | false =>
  have HS:=hid (show setB s.data.toList=false by rw [setB,hr];rfl);clear hr
  go_enter Tryz.func32,Tryz.ntmps32;go_wp2_with fail
  first
   | (go_region_with (first
    | ((go_at_call 66;(with_reducible refine (HO.out _).mono ?_);rintro e w1 ⟨⟨v,rfl,hv⟩,hb1⟩;obtain ⟨a,b,c,d,rfl,hc⟩:=ofv_any hv s (by decide) hs;rw [HR.out] at hc;have HC:=hid hc;have HB:=hid hb1;clear hv hc hb1))
    | ((go_at_call 102;refine (HC.out _ (by exact Below.refl _ _)).mono ?_;rintro e w2 ⟨rfl,hb2⟩;have HB2:=hid (HB.out.trans (hb2.mono HB.out.size));clear hb2))))
   | fail
  all_goals
   go_wp2_with fail
   go_ret
   exact ⟨by rw [HS.out];rfl,below_undrew HB2.out⟩
 | true =>
  have hl:1≤s.size:=by
   have h:=hr;simp only [ofB,Bool.and_eq_true,decide_eq_true_eq] at h;have:=h.1.1
   simpa using this
  have hli:(1:Int)≤(s.size:Int):=by omega
  obtain ⟨r,hr2⟩:∃r,ofB 1 1 1 (s.data.toList.take 1)=r:=⟨_,rfl⟩;have HS:=hid (show setB s.data.toList=r by rw [setB,hr,hr2];rfl);have HR2:=hid (show ofB 1 1 1 (s.extract 0 1).data.toList=r by rw [list_upto];exact hr2);clear hr hr2
  go_enter Tryz.func32,Tryz.ntmps32;go_wp2_with fail
  first
   | (go_region_held3 (fun _=>True) (trivial) (first
    | ((go_at_call 66;(with_reducible refine (HO.out _).mono ?_);rintro e w1 ⟨⟨v,rfl,hv⟩,hb1⟩;obtain ⟨a,b,c,d,rfl,hc⟩:=ofv_any hv s (by decide) hs;rw [HR.out] at hc;have HC:=hid hc;have HB:=hid hb1;clear hv hc hb1))
    | ((go_at_call 66;(with_reducible refine (HO2.out _).mono ?_);rintro e w3 ⟨⟨v,rfl,hv⟩,hb3⟩;obtain ⟨a2,b2,c2,d2,rfl,hc⟩:=ofv_any hv (s.extract 0 1) (by decide) (size_part _ _ _ _ hs);rw [HR2.out] at hc;have HC2:=hid hc;have HB3:=hid (HB2.out.trans (hb3.mono HB2.out.size));clear hv hc hb3))
    | ((go_at_call 102;(with_reducible refine (HC.out _ ?_).mono ?_);(exact Below.refl _ _);rintro e w2 ⟨rfl,hb2⟩;have HB2:=hid (HB.out.trans (hb2.mono HB.out.size));clear hb2))
    | ((go_at_call 102;(with_reducible refine (HC2.out _ ?_).mono ?_);(exact Below.refl _ _);rintro e w4 ⟨rfl,hb4⟩;have HB4:=hid (HB3.out.trans (hb4.mono HB3.out.size));clear hb4))))
   | fail
  all_goals
   go_wp2_with fail
   go_ret
   exact ⟨by rw [HS.out];rfl,below_undrew HB4.out⟩
def monthL:List (List UInt8):=[[106,97,110,117,97,114,121],[102,101,98,114,117,97,114,121],[109,97,114,99,104],[97,112,114,105,108],[109,97,121],[106,117,110,101],[106,117,108,121],[97,117,103,117,115,116],[115,101,112,116,101,109,98,101,114],[111,99,116,111,98,101,114],[110,111,118,101,109,98,101,114],[100,101,99,101,109,98,101,114]]
def toL:List (List UInt8):=[[111,110,108,121],[109,97,120,105,109,117,109]]
def Months (w:World):Prop:=∀i l,monthL[i]? = some l→w.cell? ⟨0,i,none⟩=some (.string ⟨l.toArray⟩)
theorem Months.below {w w':World} (h:Months w) (hb:Below w.heap.size w w'):Months w':=fun i l hl=>(hb.cell (block_lt_of_cell (h i l hl))).trans (h i l hl)
def Tos (w:World):Prop:=∀i l,toL[i]? = some l→w.cell? ⟨13,i,none⟩=some (.string ⟨l.toArray⟩)
theorem Tos.below {w w':World} (h:Tos w) (hb:Below w.heap.size w w'):Tos w':=fun i l hl=>(hb.cell (block_lt_of_cell (h i l hl))).trans (h i l hl)
theorem months_words {w:World} (h:Months w):Words w.heap.size w (.slice (some ⟨0,0,none⟩) 12 12) monthL :=
 ⟨_,12,rfl,block_lt_of_cell (h 0 _ rfl),fun j l hl=>h j l hl⟩
theorem tos_words {w:World} (h:Tos w):Words w.heap.size w (.slice (some ⟨13,0,none⟩) 2 2) toL :=
 ⟨_,2,rfl,block_lt_of_cell (h 0 _ rfl),fun j l hl=>h j l hl⟩
theorem month_any (s:ByteArray) (w:World) (hW:Months w) (hs:s.size≤1048576) :
 Calls Tryz.prog 160 #[.string s] w fun e w'=>e=.returned (.tuple #[.int .i64 (wordR monthL 1 s.data.toList).1,.int .i64 (wordR monthL 1 s.data.toList).2])∧Below w.heap.size w w':=by
 have HN:=hid (numbered_any _ monthL 1 s w (months_words hW) (by decide) hs (by decide));clear hW
 go_enter Tryz.func160,Tryz.ntmps160;go_wp2_with fail
 refine HN.out.mono ?_;rintro e w1 ⟨rfl,hb⟩;go_wp2_with fail
 go_ret2
 exact ⟨rfl,hb⟩
theorem to_any (s:ByteArray) (w:World) (hW:Tos w) (hs:s.size≤1048576) :
 Calls Tryz.prog 196 #[.string s] w fun e w'=>e=.returned (.tuple #[.int .i64 (wordR toL 1 s.data.toList).1,.int .i64 (wordR toL 1 s.data.toList).2])∧Below w.heap.size w w':=by
 have HN:=hid (numbered_any _ toL 1 s w (tos_words hW) (by decide) hs (by decide));clear hW
 go_enter Tryz.func196,Tryz.ntmps196;go_wp2_with fail
 refine HN.out.mono ?_;rintro e w1 ⟨rfl,hb⟩;go_wp2_with fail
 go_ret2
 exact ⟨rfl,hb⟩
def monthT (m:Int):List UInt8:=if 1≤m∧m≤12 then shortL (monthL.getD (m-1).toNat []) else []
theorem monthL_at (i:Nat) (hi:i<12):∃a b c l,monthL[i]? = some (a::b::c::l)∧(97≤a.toNat∧a.toNat≤122)∧l.length<100∧monthT ((i:Int)+1)=[Lib.upperB a,b,c]:=by
 rcases (by omega:i=0∨i=1∨i=2∨i=3∨i=4∨i=5∨i=6∨i=7∨i=8∨i=9∨i=10∨i=11) with rfl|rfl|rfl|rfl|rfl|rfl|rfl|rfl|rfl|rfl|rfl|rfl
 all_goals exact ⟨_,_,_,_,rfl,by decide,by decide,by decide⟩
theorem monthT_len (m:Int):(monthT m).length≤3:=by
 by_cases hm:1≤m∧m≤12
 ·obtain ⟨n,hn⟩:=Int.eq_ofNat_of_zero_le (show 0≤m-1 by omega)
  obtain ⟨a,b,c,l,hl,ha,hn2,ht⟩:=monthL_at n (by omega);rw [show m=(n:Int)+1 by omega,ht];simp
 ·rw [monthT,if_neg hm];simp
theorem monthText_any (m:Int) (w:World) (hW:Months w) (h0 : -1000000≤m) (h1:m≤1000000) :
 Calls Tryz.prog 37 #[.int .i64 m] w fun e w'=>e=.returned (.string ⟨(monthT m).toArray⟩)∧Below w.heap.size w w':=by
 by_cases hm:1≤m∧m≤12
 ·obtain ⟨n,hn⟩:=Int.eq_ofNat_of_zero_le (show 0≤m-1 by omega)
  obtain rfl:m=(n:Int)+1:=by omega
  obtain ⟨a,b,c,l,hl,ha,hn2,ht⟩:=monthL_at n (by omega);have HC:=hid (short_in 0 12 12 n (by omega) (by decide) a b c l (by omega) hn2 w (hW n _ hl));have HT:=hid ht;have hn1:¬((n:Int)+1<1):=by omega
  clear hm hl ht hW hn
  go_enter Tryz.func37,Tryz.ntmps37;go_wp2_with fail
  refine HC.out.mono ?_;rintro e w1 ⟨rfl,hb⟩;go_wp2_with fail
  go_ret
  exact ⟨by rw [HT.out];rfl,hb⟩
 ·have HT:=hid (show monthT m=[] from if_neg hm)
  by_cases h2:m<1
  ·clear hm hW
   go_enter Tryz.func37,Tryz.ntmps37;go_wp2_with fail
   go_ret
   exact ⟨by rw [HT.out];rfl,Below.refl _ _⟩
  ·have HC:=hid (short_out 0 12 12 (m-1) (by omega) w)
   clear hm hW
   go_enter Tryz.func37,Tryz.ntmps37;go_wp2_with fail
   refine HC.out.mono ?_;rintro e w1 ⟨rfl,rfl⟩;go_wp2_with fail
   go_ret
   exact ⟨by rw [HT.out];rfl,Below.refl _ _⟩
theorem results_cell_tmp {P:Program} {fn:Func} {p t:Tmp} {ty:TypeId} (h:fn.results=#[.cell p ty,.tmp t]) (tmps:Array Value) (w:World) (g:Nat) (tt:TypeId) (cs:Array Value) (d:TypeDesc) (v:Value)
 (hp:tmps.getD p undef=.pointer (some ⟨g,0,none⟩)) (hv:tmps.getD t undef=v) (hg:Blk w g tt cs)
 (hu:P.underlying ty=some d) (hd:(match d with | .struct _ | .array _ _=>true | _=>false)=true) (hi:(P.info? ty).map (·.size)=some cs.size) :
 (results fn tmps).run P w=.ok (.tuple #[.agg cs,v]) w:=by
 have hp':tmps[p]?.getD undef=.pointer (some ⟨g,0,none⟩):=by simpa using hp
 have hv':tmps[t]?.getD undef=v:=by simpa using hv
 simp [results,h,hp',hv',asAddr,run_loadVar_row w g tt ty cs (0,0) d hg hu hd hi]
def offTx (x:Int):List UInt8:=(if x<0 then [45] else [])++offT x.natAbs
def joinS:List (List UInt8)→List UInt8
 | []=>[]
 | a::r=>if r=[] then a else a++32::joinS r
theorem itoa_nat (n:Nat):Lib.itoa (n:Int)=Lib.decDigits n:=by simp [Lib.itoa]
theorem named_nat {y:Int} (h:namedB y=true):∃n:Nat,y=(n:Int)∧1850≤n∧n≤2149:=by
 have h:=of_decide_eq_true h;exact ⟨y.toNat,by omega,by omega,by omega⟩
theorem year_back {y:Int} (h:namedB y=true):yearR (Lib.itoa y)=(y,0):=by
 obtain ⟨n,rfl,h1,h2⟩:=named_nat h;obtain ⟨_,hv,_,_⟩:=dec_all n;rw [itoa_nat,yearR,if_pos (isYear_dec n (by omega) (by omega)),hv,if_pos ⟨h1,h2⟩]
theorem dec_head {n:Nat} : ∃c,(Lib.decDigits n).head? = some c∧48≤c.toNat∧c.toNat≤57:=by
 obtain ⟨ha,_,hn,_⟩:=dec_all n
 cases hl:Lib.decDigits n with
 | nil=>exact absurd hl hn
 | cons c r=>exact ⟨c,rfl,ha c (by rw [hl];simp)⟩
theorem month_fin:∀m:Fin 12,wordR monthL 1 (monthT ((m.val:Int)+1))=((m.val:Int)+1,0)∧((monthT ((m.val:Int)+1)).all fun c=>c != 32)=true:=by decide +kernel
theorem month_back {m:Int} (h:1≤m∧m≤12):wordR monthL 1 (monthT m)=(m,0)∧((monthT m).all fun c=>c != 32)=true:=by
 have:=month_fin ⟨(m-1).toNat,by omega⟩;simp only [show (((m-1).toNat:Nat):Int)+1=m by omega] at this;exact this
theorem findP_found {ps:List (Nat × List UInt8)} {s:List UInt8} {n:Nat} (h:∀p ∈ ps,p.1<n) (hf:(findP ps s).2=true):(findP ps s).1<n:=by
 unfold findP at hf ⊢
 split
 ·rename_i p hp
  exact h p (List.mem_of_find?_eq_some hp)
 ·rename_i hp
  simp only [hp] at hf
  cases hl:ps.getLast? with
  | none =>
   rw [List.getLast?_eq_none_iff] at hl;subst hl
   simp at hf
  | some p=>exact h p (List.mem_of_getLast? hl)
theorem wordF_found {ws:List (List UInt8)} {s:List UInt8} (h:(wordF ws s).2=true):(wordF ws s).1<ws.length:=findP_found (fun p hp=>(begTo_mem hp).1) h
theorem wordR_found {ws:List (List UInt8)} {f:Int} {s:List UInt8} (h:(wordR ws f s).2=0):f≤(wordR ws f s).1∧(wordR ws f s).1<f+ws.length:=by
 unfold wordR at h ⊢
 split at h
 ·rename_i h1
  rw [if_pos h1];have:=wordF_found h1;simp only;omega
 ·simp at h
theorem day_fin:∀k:Fin 5,∀wk:Fin 7,∀d:Fin 32,rightDay k.val wk.val d.val=true→parseR (dayText k.val wk.val d.val)=(((k.val:Int),(wk.val:Int),(d.val:Int)),0)∧((dayText k.val wk.val d.val).all fun c=>c != 32)=true∧(dayText k.val wk.val d.val).length≤9:=by decide +kernel
theorem day_back {k wk d:Int} (h:rightDay k wk d=true):parseR (dayText k wk d)=((k,wk,d),0)∧((dayText k wk d).all fun c=>c != 32)=true∧(dayText k wk d).length≤9:=by
 obtain ⟨h1,h2,h3,h4,h5,h6⟩:=right_bd h;have:=day_fin ⟨k.toNat,by omega⟩ ⟨wk.toNat,by omega⟩ ⟨d.toNat,by omega⟩;simp only [show ((k.toNat:Nat):Int)=k by omega,show ((wk.toNat:Nat):Int)=wk by omega,show ((d.toNat:Nat):Int)=d by omega] at this;exact this h
theorem digLen_app:∀(n:Nat) (ds r:List UInt8),allD ds→ds.length≤n→(∀c,r.head? = some c→¬(48≤c.toNat∧c.toNat≤57))→digLen n (ds++r)=ds.length
 | 0,[],r,_,_,_=>rfl
 | n+1,[],[],_,_,_=>rfl
 | n+1,[],c::r,_,_,h=>if_neg (h c rfl)
 | n+1,a::ds,r,hd,hl,h=>by
  have ih:=digLen_app n ds r (fun c hc=>hd c (List.mem_cons_of_mem _ hc)) (by simp at hl;omega) h
  show (if 48≤a.toNat∧a.toNat≤57 then digLen n (ds++r)+1 else 0)=_
  rw [if_pos (hd a (by simp)),ih];rfl
theorem two_fin:∀n:Fin 60,(twoT n.val).length=2∧((twoT n.val).all fun c=>decide (48≤c.toNat∧c.toNat≤57))=true∧valD (twoT n.val)=n.val:=by decide +kernel
theorem two_of {n:Nat} (h:n<60):∃a b:UInt8,twoT n=[a,b]∧(48≤a.toNat∧a.toNat≤57)∧(48≤b.toNat∧b.toNat≤57)∧valD [a,b]=n:=by
 obtain ⟨h1,h2,h3⟩:=two_fin ⟨n,h⟩;simp only at h1 h2 h3
 match ht:twoT n,h1 with
 | [a,b],_ =>
  rw [ht] at h2 h3;simp only [List.all_cons,List.all_nil,Bool.and_true,Bool.and_eq_true,decide_eq_true_eq] at h2;exact ⟨a,b,rfl,h2.1,h2.2,h3⟩
theorem part_back {n:Nat} (h:n<60) (r:List UInt8):partR (58::(twoT n++r))=some (n,r):=by
 obtain ⟨a,b,ht,ha,hb,hv⟩:=two_of h;have hd:digLen 2 (a::b::r)=2:=by simp [digLen,ha,hb]
 rw [ht]
 show (if (58:UInt8)=58∧digLen 2 (a::b::r)=2∧valD [a,b]≤59 then some (valD [a,b],r) else none)=_
 rw [hv,if_pos ⟨rfl,hd,by omega⟩]
theorem dec3 {n:Nat} (h:n<1000):(Lib.decDigits n).length≤3:=dig_len n h
theorem hours_back {n:Nat} (h:n<1000) (r:List UInt8):hoursR (Lib.decDigits n++58::r)=some (n,58::r):=by
 obtain ⟨ha,hv,hne,h0⟩:=dec_all n;have hk:digLen 3 (Lib.decDigits n++58::r)=(Lib.decDigits n).length:=digLen_app 3 _ _ ha (dec3 h) (by intro c hc;cases hc;decide);have hlen:(Lib.decDigits n).length≠0:=by simpa using hne
 have hh:¬(1<(Lib.decDigits n).length∧(Lib.decDigits n++58::r).head? = some 48):=by
  rintro ⟨hl,hh⟩
  by_cases hn:n=0
  ·subst hn
   exact absurd hl (by decide +kernel)
  ·refine h0 hn ?_
   cases hd:Lib.decDigits n with
   | nil=>exact absurd hd hne
   | cons c t=>rw [hd] at hh;exact hh
 unfold hoursR;simp only [hk];rw [if_neg (by rintro (h|h);exact hlen h;exact hh h)]
 simp [hv]
def tailT (s:Nat):List UInt8:=if s≠0 then [58]++twoT s else []
theorem offT_eq (n:Nat):offT n=Lib.decDigits (n / 3600)++58::(twoT (n / 60 % 60)++tailT (n % 60)):=by simp [offT,tailT]
theorem form_back {n:Nat} (h:n≤604799):formR (offT n)=some n:=by
 have s1:stR (offT n) 1=some (58::(twoT (n / 60 % 60)++tailT (n % 60)),n / 3600,0,0):=by
  rw [offT_eq]
  show stepR 0 (_,0,0,0)=_
  rw [stepR,if_pos rfl,hours_back (by omega)];rfl
 have s2:stR (offT n) 2=some (tailT (n % 60),n / 3600,n / 60 % 60,0):=by
  refine st_next s1 ?_;rw [stepR,if_neg (by decide),if_neg (by simp),if_pos rfl,part_back (Nat.mod_lt _ (by omega))];rfl
 have s3:stR (offT n) 3=some ([],n / 3600,n / 60 % 60,n % 60):=by
  refine st_next s2 ?_
  by_cases hs:n % 60=0
  ·rw [hs];rfl
  ·have ht:tailT (n % 60)=58::(twoT (n % 60)++[]):=by rw [tailT,if_pos hs];simp
   rw [stepR,if_neg (by decide),if_neg (by rw [ht];simp),if_neg (by decide)];simp only [ht];rw [part_back (Nat.mod_lt _ (by omega))];rfl
 rw [formR,s3];simp only [Option.bind_some];rw [if_pos trivial]
 congr 1;omega
theorem off_bytes {n:Nat} : ∀c ∈ offT n,48≤c.toNat∧c.toNat≤58:=by
 have hd:∀m:Nat,∀c ∈ Lib.decDigits m,48≤c.toNat∧c.toNat≤58:=fun m c hc=>by have:=(dec_all m).1 c hc;omega
 have ht:∀m:Nat,∀c ∈ twoT m,48≤c.toNat∧c.toNat≤58:=fun m c hc=>by
  unfold twoT at hc
  split at hc
  ·rcases List.mem_cons.1 hc with rfl|hc
   ·decide
   ·exact hd m c hc
  ·exact hd m c hc
 intro c hc;rw [offT_eq] at hc
 rcases List.mem_append.1 hc with hc|hc
 ·exact hd _ c hc
 ·rcases List.mem_cons.1 hc with rfl|hc
  ·decide
  ·rcases List.mem_append.1 hc with hc|hc
   ·exact ht _ c hc
   ·unfold tailT at hc
    split at hc
    ·rcases List.mem_cons.1 hc with rfl|hc
     ·decide
     ·exact ht _ c (by simpa using hc)
    ·simp at hc
theorem off_head {n:Nat} : (offT n).head? ≠ some 45:=by
 intro h;have:=off_bytes 45 (List.mem_of_head? h);exact absurd this (by decide)
theorem off_last {n:Nat} : ∃c,(offT n).getLast? = some c∧48≤c.toNat∧c.toNat≤57:=by
 have hd:∀m:Nat,∃c,(twoT m).getLast? = some c∧48≤c.toNat∧c.toNat≤57:=fun m=>by
  obtain ⟨ha,_,hne,_⟩:=dec_all m;obtain ⟨c,hc⟩:∃c,(Lib.decDigits m).getLast? = some c:=⟨_,List.getLast?_eq_some_getLast hne⟩;refine ⟨c,?_,ha c (List.mem_of_getLast? hc)⟩;unfold twoT
  split
  ·rw [List.getLast?_cons,hc];rfl
  ·exact hc
 rw [offT_eq]
 by_cases hs:n % 60=0
 ·obtain ⟨c,hc,hb⟩:=hd (n / 60 % 60)
  refine ⟨c,?_,hb⟩;rw [show tailT (n % 60)=[] by rw [hs];rfl,List.append_nil,List.getLast?_append,List.getLast?_cons,hc];rfl
 ·obtain ⟨c,hc,hb⟩:=hd (n % 60)
  refine ⟨c,?_,hb⟩;rw [show tailT (n % 60)=58::twoT (n % 60) by rw [tailT,if_pos hs];rfl,List.getLast?_append,List.getLast?_cons,List.getLast?_append,List.getLast?_cons,hc];rfl
theorem off_back {x:Int} (h : -604799≤x∧x≤604799):offParseR (offTx x)=(x,0):=by
 by_cases hx:x<0
 ·have ht:offTx x=45::offT x.natAbs:=by rw [offTx,if_pos hx];rfl
  rw [ht,offParseR];simp only [List.head?_cons,List.tail_cons,if_true,true_and];rw [form_back (by omega)];simp only;rw [if_neg (by omega),if_neg (by omega)]
  congr 1;omega
 ·have ht:offTx x=offT x.natAbs:=by rw [offTx,if_neg hx];rfl
  rw [ht,offParseR];simp only [off_head,if_false,false_and];rw [form_back (by omega)];simp only;rw [if_neg (by omega)]
  congr 1;omega
theorem cut_off {x b:Int} (hb:0≤b∧b≤2):cutR (clockT x b)=(offTx x,b):=by
 have hT:clockT x b=offTx x++(if b=1 then [115] else if b=2 then [117] else []):=rfl;rw [hT]
 rcases (by omega:b=0∨b=1∨b=2) with rfl|rfl|rfl
 ·obtain ⟨c,hc,hd⟩:=off_last (n:=x.natAbs)
  have hl:(offTx x).getLast? = some c:=by rw [offTx,List.getLast?_append,hc];rfl
  have hn:baseOf c.toNat=none:=by
   unfold baseOf;rw [if_neg (by omega),if_neg (by omega),if_neg (by omega)]
  show cutR (offTx x++[])=_
  rw [List.append_nil,cutR,hl];simp only [Option.bind_some,hn]
 ·show cutR (offTx x++[115])=_
  rw [cutR]
  simp [baseOf]
 ·show cutR (offTx x++[117])=_
  rw [cutR]
  simp [baseOf]
theorem clock_back {x b:Int} (h:clockOk x b=true):clockR (clockT x b)=((x,b),0):=by
 simp only [clockOk,Bool.and_eq_true,decide_eq_true_eq] at h;rw [clockR,cut_off h.2,off_back h.1];rfl
theorem joinS_len:∀xs:List (List UInt8),(∀x ∈ xs,x.length≤30)→(joinS xs).length≤31*xs.length
 | [],_=>by simp [joinS]
 | x::r,h=>by
  have ih:=joinS_len r fun y hy=>h y (List.mem_cons_of_mem _ hy)
  have hx:=h x (by simp);unfold joinS
  split
  ·simp;omega
  ·simp;omega
theorem dec_len4 (n:Nat) (h:n≤9999):(Lib.decDigits n).length≤30:=by have:=dec_len n h;omega
theorem off_len {x:Int} (h : -604799≤x∧x≤604799):(offTx x).length≤10:=by
 have:=offT_len x.natAbs (by omega);unfold offTx
 split<;>simp<;>omega
theorem ofB_len {a b m:Nat} {l:List UInt8} (h:ofB a b m l=true):a≤l.length∧l.length≤b:=by
 simp only [ofB,Bool.and_eq_true,decide_eq_true_eq] at h;exact h.1
theorem set_len {l:List UInt8} (h:setB l=true):l.length≤30:=by
 simp only [setB,Bool.and_eq_true] at h;exact (ofB_len h.1).2
theorem rcell_drew {w:World} {p:Addr} {v:Value} (h:w.cell? p=some v):w.drew.cell? p=some v:=h
theorem rcell_alloc {w:World} {p:Addr} {v:Value} (h:w.cell? p=some v) (o:Obj):(w.alloc o).cell? p=some v:=(((Below.refl w.heap.size w).alloc (Nat.le_refl _) o).cell (block_lt_of_cell h)).trans h
theorem rbelow_alloc {w W:World} (h:Below w.heap.size w W) (o:Obj):Below w.heap.size w (W.alloc o):=h.alloc h.size o
theorem strs_cells {w:World} {g:Nat} {t:TypeId} {cs:Array Value} (h:Blk w g t cs) (xs:List (List UInt8)) (hc:cs.toList=xs.map fun x=>.string ⟨x.toArray⟩):∀(j:Nat) x,xs[j]? = some x→w.cell? ⟨g,j,none⟩=some (.string ⟨x.toArray⟩):=fun j x hj=>h.cell_ (by rw [←Array.getElem?_toList,hc,List.getElem?_map,hj];rfl)
theorem size_len (s:ByteArray):s.size=s.data.toList.length:=rfl
theorem off_cases (x:Int):(-604799≤x∧x≤604799)∧offPrintR x=(offTx x,0)∨¬(-604799≤x∧x≤604799)∧offPrintR x=([],3):=by
 by_cases h : -604799≤x∧x≤604799
 ·exact .inl ⟨h,offPrint_ok x h.1 h.2⟩
 ·exact .inr ⟨h,if_pos (by omega)⟩
def strV (ls:List (List UInt8)):List Value:=ls.map fun l=>.string ⟨l.toArray⟩
structure StrRow (w:World) (b o:Nat) (ls:List (List UInt8)):Prop where
 lt:b<w.heap.size
 at_:∀(j:Nat) l,ls[j]? = some l→w.cell? ⟨b,o+j,none⟩=some (.string ⟨l.toArray⟩)
theorem StrRow.below {w w':World} {b o:Nat} {ls:List (List UInt8)} (h:StrRow w b o ls) (hb:Below w.heap.size w w'):StrRow w' b o ls :=
 ⟨Nat.lt_of_lt_of_le h.lt hb.size,fun j l hl=>(hb.cell (p:=⟨b,o+j,none⟩) h.lt).trans (h.at_ j l hl)⟩
theorem StrRow.tail {w:World} {b o:Nat} {a:List UInt8} {ls:List (List UInt8)} (h:StrRow w b o (a::ls)):StrRow w b (o+1) ls :=
 ⟨h.lt,fun j l hl=>by have:=h.at_ (j+1) l (by simpa using hl);rw [show o+1+j=o+(j+1) by omega];exact this⟩
theorem StrRow.own {w:World} {base g n cap:Nat} {ls:List (List UInt8)} (h:w.ownsRow base 9 1 (.slice (some ⟨g,0,none⟩) n cap) n (strV ls)) (hg:g<w.heap.size):StrRow w g 0 ls :=
 ⟨hg,fun j l hl=>by
  have hj:j<ls.length:=by
   rcases Nat.lt_or_ge j ls.length with h|h
   ·exact h
   ·rw [List.getElem?_eq_none h] at hl;cases hl
  have hn:ls.length=n:=by have:=h.1;simpa [strV] using this
  rw [Nat.zero_add,h.cellAt j (by omega),strV,List.getElem?_map,hl];rfl⟩
structure StrArg (w:World) (A:Option Addr) (ls:List (List UInt8)):Prop where
 row:ls≠[]→∃b o,A=some ⟨b,o,none⟩∧StrRow w b o ls
theorem StrArg.below {w w':World} {A:Option Addr} {ls:List (List UInt8)} (h:StrArg w A ls) (hb:Below w.heap.size w w'):StrArg w' A ls :=
 ⟨fun h0=>by obtain ⟨b,o,hA,hr⟩:=h.row h0;exact ⟨b,o,hA,hr.below hb⟩⟩
theorem StrArg.reads {w:World} {A:Option Addr} {ls:List (List UInt8)} (h:StrArg w A ls):Reads w w.heap.size 1 A ls.length (strV ls):=by
 refine ⟨by simp [strV],fun hn=>?_⟩;obtain ⟨b,o,rfl,hr⟩:=h.row (by intro h;subst h;simp at hn);refine ⟨_,rfl,hr.lt,fun j u hu=>?_⟩;rw [strV,List.getElem?_map] at hu
 cases hj:ls[j]? with
 | none=>rw [hj] at hu;cases hu
 | some l =>
  rw [hj] at hu
  cases hu
  have:=hr.at_ j l hj;have e:(⟨b,o,none⟩:Addr).add j=⟨b,o+j,none⟩:=by unfold Addr.add;split<;>simp_all
  rw [e];exact this
structure But (g:Nat) (w w':World):Prop where
 os:w'.os=w.os
 tape:w'.tape=w.tape
 output:w'.output=w.output
 size:w.heap.size≤w'.heap.size
 block:∀k,k<w.heap.size→k≠g→w'.heap[k]? = w.heap[k]?
theorem But.of {g:Nat} {w w':World} (h:Below w.heap.size w w'):But g w w':=⟨h.os,h.tape,h.output,h.size,fun k hk _=>h.block k hk⟩
theorem But.set {g:Nat} {w w':World} (h:But g w w') (i:Nat) (v:Value):But g w (w'.setCell ⟨g,i,none⟩ v) :=
 ⟨h.os,h.tape,h.output,by simpa using h.size,fun k hk hne=>(Below.heap_setCell w' ⟨g,i,none⟩ v k hne).trans (h.block k hk hne)⟩
theorem But.below {g B:Nat} {a w w':World} (h:But g w w') (hb:Below B a w) (hg:B≤g) (hB:B≤a.heap.size):Below B a w' :=
 ⟨h.os.trans hb.os,h.tape.trans hb.tape,h.output.trans hb.output,Nat.le_trans hb.size h.size,fun k hk=>(h.block k (by have:=hb.size;omega) (by omega)).trans (hb.block k hk)⟩
theorem Blk.but {w w':World} {g b:Nat} {t:TypeId} {cs:Array Value} (h:Blk w b t cs) (hb:But g w w') (hne:b≠g):Blk w' b t cs:=(hb.block b h.lt hne).trans h
theorem wordR_err (ws:List (List UInt8)) (f:Int) (l:List UInt8):(wordR ws f l).2=0∨(wordR ws f l).2=8:=by
 unfold wordR;split<;>simp
theorem str_ne {s:ByteArray} {l:List UInt8} (h:s.data.toList≠l):(s.toList==l)=false:=beq_eq_false_iff_ne.2 (by rw [Lib.toList_data];exact h)
theorem str_of {s:ByteArray} {l:List UInt8} (h:s.data.toList=l):s=⟨l.toArray⟩:=by rw [←h]
end Go.Proofs.YtboagmbmmoomiaaGreatDoor
