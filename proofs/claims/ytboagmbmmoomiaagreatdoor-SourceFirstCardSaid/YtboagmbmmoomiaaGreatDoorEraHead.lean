/-
  Eras as plain data: what is read out of fields, what is printed; what is printed is read again.
  Eras as plain data: fields left out, fields that are wrong, eras without a line.
  Small functions of eraline: must, need, named, letter, written, year: what each returns, or with what it panics.
  eraline.written and eraline.year: what each returns, or with what it panics.
  eraline.year: what it returns, or with what it panics.
  eraline.caught: the deferred closure in both modes; caught over a closure that returns or panics.
  eraline.amount, first, last: what each returns, or with what it panics.
  eraline.end: what it returns, or with what it panics.
-/
import Derived.Test.YtboagmbmmoomiaaGreatDoorOffAll
import Derived.Lib.Split
import Derived.Test.YtboagmbmmoomiaaGreatDoorShelf3
import Derived.Recover
import Derived.Defers
import Derived.Outline
set_option linter.unusedVariables false
set_option maxRecDepth 100000
set_option maxHeartbeats 4000000
namespace Go.Proofs.YtboagmbmmoomiaaGreatDoor
open Go.Lib (hid)
open Go.RowKit
structure UntilP where
 is:Bool
 year:Int
 mon:Int
 day:Int × Int × Int
 hour:Int × Int
structure EraP where
 off:Int
 kind:Int
 save:Int
 set:List UInt8
 fmt:List UInt8
 til:UntilP
def UntilP.none:UntilP:=⟨false,0,0,(0,0,0),(0,0)⟩
def EraP.none:EraP:=⟨0,0,0,[],[],UntilP.none⟩
def UntilP.cells (u:UntilP):List Value:=[.bool u.is,.int .i64 u.year,.int .i64 u.mon,.int .i64 u.day.1,.int .i64 u.day.2.1,.int .i64 u.day.2.2,.int .i64 u.hour.1,.int .i64 u.hour.2]
def EraP.cells (e:EraP):Array Value:=#[.int .i64 e.off,.int .i64 e.kind,.int .i64 e.save,.string ⟨e.set.toArray⟩,.string ⟨e.fmt.toArray⟩,.bool e.til.is,.int .i64 e.til.year,.int .i64 e.til.mon,.int .i64 e.til.day.1,.int .i64 e.til.day.2.1,.int .i64 e.til.day.2.2,.int .i64 e.til.hour.1,.int .i64 e.til.hour.2]
def fmtC (c:UInt8):Bool:=decide (33≤c.toNat∧c.toNat≤126∧c.toNat≠34∧c.toNat≠35)
def fmtB (l:List UInt8):Bool:=decide (1≤l.length∧l.length≤20)&&l.all fmtC
def headB (l:List UInt8):Bool:=ofB 1 4 1 (l.take 1)
def rulesR (l:List UInt8):(Int × Int × List UInt8) × Int :=
 if l=[45] then ((0,0,[]),0)
 else if headB l=true then (if setB l=true then ((2,0,l),0) else ((0,0,[]),9))
 else if (offParseR l).2=0 then ((1,(offParseR l).1,[]),0) else ((0,0,[]),(offParseR l).2)
def endR_ (l:List (List UInt8)):UntilP × Int :=
 if (yearR (l.getD 0 [])).2≠0 then (UntilP.none,(yearR (l.getD 0 [])).2)
 else if 1<l.length∧(wordR monthL 1 (l.getD 1 [])).2≠0 then (UntilP.none,(wordR monthL 1 (l.getD 1 [])).2)
 else if 2<l.length∧(parseR (l.getD 2 [])).2≠0 then (UntilP.none,(parseR (l.getD 2 [])).2)
 else if 3<l.length∧(clockR (l.getD 3 [])).2≠0 then (UntilP.none,(clockR (l.getD 3 [])).2)
 else (⟨true,(yearR (l.getD 0 [])).1,if 1<l.length then (wordR monthL 1 (l.getD 1 [])).1 else 1,if 2<l.length then (parseR (l.getD 2 [])).1 else (1,0,1),if 3<l.length then (clockR (l.getD 3 [])).1 else (0,0)⟩,0)
def eraR (l:List (List UInt8)):EraP × Int :=
 if l.length<3∨7<l.length then (EraP.none,5)
 else if (offParseR (l.getD 0 [])).2≠0 then (EraP.none,(offParseR (l.getD 0 [])).2)
 else if (rulesR (l.getD 1 [])).2≠0 then (EraP.none,(rulesR (l.getD 1 [])).2)
 else if fmtB (l.getD 2 [])=false then (EraP.none,15)
 else if l.length=3 then (⟨(offParseR (l.getD 0 [])).1,(rulesR (l.getD 1 [])).1.1,(rulesR (l.getD 1 [])).1.2.1,(rulesR (l.getD 1 [])).1.2.2,l.getD 2 [],UntilP.none⟩,0)
 else if (endR_ (l.drop 3)).2≠0 then (EraP.none,(endR_ (l.drop 3)).2)
 else (⟨(offParseR (l.getD 0 [])).1,(rulesR (l.getD 1 [])).1.1,(rulesR (l.getD 1 [])).1.2.1,(rulesR (l.getD 1 [])).1.2.2,l.getD 2 [],(endR_ (l.drop 3)).1⟩,0)
def lastN (u:UntilP):Nat:=if u.hour≠(0,0) then 3 else if u.day≠(1,0,1) then 2 else if u.mon≠1 then 1 else 0
def untilFs (u:UntilP):List (List UInt8):=if u.is=false then [] else
 [Lib.itoa u.year]++(if 1≤lastN u then [monthT u.mon] else [])++(if 2≤lastN u then [dayText u.day.1 u.day.2.1 u.day.2.2] else [])++(if 3≤lastN u then [clockT u.hour.1 u.hour.2] else [])
def untilOk (u:UntilP):Bool:=if u.is=false then decide (u.year=0∧u.mon=0∧u.day=(0,0,0)∧u.hour=(0,0)) else namedB u.year&&decide (1≤u.mon∧u.mon≤12)&&rightDay u.day.1 u.day.2.1 u.day.2.2&&clockOk u.hour.1 u.hour.2
def eraOk (e:EraP):Bool:=decide (-604799≤e.off∧e.off≤604799)&&decide (0≤e.kind∧e.kind≤2)&&(decide (e.kind=1)||decide (e.save=0))&&(decide (e.kind=2)==setB e.set)&&(decide (e.kind=2)||decide (e.set=[]))&&fmtB e.fmt&&(decide (e.kind≠1)||decide (-604799≤e.save∧e.save≤604799))&&untilOk e.til
def byT (e:EraP):List UInt8:=if e.kind=1 then offTx e.save else if e.kind=2 then e.set else [45]
def eraFs (e:EraP):List (List UInt8):=[offTx e.off,byT e,e.fmt]++untilFs e.til
def eraT (e:EraP):List UInt8:=joinS (eraFs e)
structure UntilRight (u:UntilP):Prop where
 no:u.is=false→u=UntilP.none
 year:u.is=true→namedB u.year=true
 mon:u.is=true→1≤u.mon∧u.mon≤12
 day:u.is=true→rightDay u.day.1 u.day.2.1 u.day.2.2=true
 hour:u.is=true→clockOk u.hour.1 u.hour.2=true
structure EraRight (e:EraP):Prop where
 off : -604799≤e.off∧e.off≤604799
 kind:0≤e.kind∧e.kind≤2
 save0:e.kind≠1→e.save=0
 save1:e.kind=1 → -604799≤e.save∧e.save≤604799
 set2:e.kind=2→setB e.set=true
 set0:e.kind≠2→e.set=[]
 fmt:fmtB e.fmt=true
 til:UntilRight e.til
theorem untilOk_iff (u:UntilP):untilOk u=true↔UntilRight u:=by
 obtain ⟨is,y,m,⟨d1,d2,d3⟩,⟨h1,h2⟩⟩:=u
 cases is
 ·simp only [untilOk,if_true,decide_eq_true_eq]
  constructor
  ·rintro ⟨rfl,rfl,hd,hh⟩
   cases hd;cases hh
   exact ⟨fun _=>rfl,(fun h=>by cases h),(fun h=>by cases h),(fun h=>by cases h),(fun h=>by cases h)⟩
  ·intro h
   have:=h.no rfl
   cases this
   exact ⟨rfl,rfl,rfl,rfl⟩
 ·simp only [untilOk,Bool.and_eq_true,decide_eq_true_eq,Bool.true_eq_false,if_false]
  constructor
  ·rintro ⟨⟨⟨h1,h2⟩,h3⟩,h4⟩
   exact ⟨(fun h=>by cases h),fun _=>h1,fun _=>h2,fun _=>h3,fun _=>h4⟩
  ·intro h
   exact ⟨⟨⟨h.year rfl,h.mon rfl⟩,h.day rfl⟩,h.hour rfl⟩
theorem setB_nil:setB []=false:=by decide +kernel
theorem eraOk_iff (e:EraP):eraOk e=true↔EraRight e:=by
 simp only [eraOk,Bool.and_eq_true,Bool.or_eq_true,decide_eq_true_eq,beq_iff_eq,untilOk_iff]
 constructor
 ·rintro ⟨⟨⟨⟨⟨⟨⟨h1,h2⟩,h3⟩,h4⟩,h5⟩,h6⟩,h7⟩,h8⟩
  refine ⟨h1,h2,fun h=>h3.resolve_left h,fun h=>h7.resolve_left (fun h'=>h' h),fun h=>?_,fun h=>h5.resolve_left h,h6,h8⟩;rw [←h4];exact decide_eq_true h
 ·intro h
  refine ⟨⟨⟨⟨⟨⟨⟨h.off,h.kind⟩,?_⟩,?_⟩,?_⟩,h.fmt⟩,?_⟩,h.til⟩
  ·by_cases h1:e.kind=1
   ·exact .inl h1
   ·exact .inr (h.save0 h1)
  ·by_cases h2:e.kind=2
   ·rw [h.set2 h2];exact decide_eq_true h2
   ·rw [h.set0 h2,setB_nil];exact decide_eq_false h2
  ·by_cases h2:e.kind=2
   ·exact .inl h2
   ·exact .inr (h.set0 h2)
  ·by_cases h1:e.kind=1
   ·exact .inr (h.save1 h1)
   ·exact .inl h1
theorem until_fs {u:UntilP} (h:UntilRight u) (hi:u.is=true):endR_ (untilFs u)=(u,0):=by
 obtain ⟨is,y,m,⟨d1,d2,d3⟩,⟨h1,h2⟩⟩:=u;obtain rfl:is=true:=hi;have ey:=year_back (h.year rfl);have em:=(month_back (h.mon rfl)).1;have ed:=(day_back (h.day rfl)).1;have eh:=clock_back (h.hour rfl);simp only at ey em ed eh
 by_cases hh:(h1,h2)=((0,0):Int × Int)
 ·by_cases hd:(d1,d2,d3)=((1,0,1):Int × Int × Int)
  ·by_cases hm:m=1
   ·have hl:lastN ⟨true,y,m,(d1,d2,d3),(h1,h2)⟩=0:=by simp [lastN,hh,hd,hm]
    cases hh;cases hd;subst hm
    simp [untilFs,hl,endR_,ey]
   ·have hl:lastN ⟨true,y,m,(d1,d2,d3),(h1,h2)⟩=1:=by simp [lastN,hh,hd,hm]
    cases hh;cases hd
    simp [untilFs,hl,endR_,ey,em]
  ·have hl:lastN ⟨true,y,m,(d1,d2,d3),(h1,h2)⟩=2:=by simp only [lastN,hh,ne_eq,not_true,if_false,hd,not_false_eq_true,if_true]
   cases hh
   simp [untilFs,hl,endR_,ey,em,ed]
 ·have hl:lastN ⟨true,y,m,(d1,d2,d3),(h1,h2)⟩=3:=by simp only [lastN,hh,ne_eq,not_false_eq_true,if_true]
  simp [untilFs,hl,endR_,ey,em,ed,eh]
theorem off_not_dash (x:Int):offTx x≠[45]:=by
 intro h;unfold offTx at h
 have hl:0<(offT x.natAbs).length:=by
  obtain ⟨c,hc,_⟩:=off_last (n:=x.natAbs)
  cases ho:offT x.natAbs with
  | nil=>rw [ho] at hc;cases hc
  | cons a l=>simp
 have hl2:3≤(offT x.natAbs).length:=by
  rw [offT_eq];have h1:(twoT (x.natAbs / 60 % 60)).length=2:=twoT_len' _ (by omega)
  simp [h1];omega
 have:=congrArg List.length h
 simp at this
 omega
theorem off_no_head (x:Int):headB (offTx x)=false:=by
 have hb:∀c,(offTx x).head? = some c→45≤c.toNat∧c.toNat≤58:=by
  intro c hc;unfold offTx at hc
  by_cases hx:x<0
  ·rw [if_pos hx] at hc;cases hc;decide
  ·rw [if_neg hx,List.nil_append] at hc
   have:=off_bytes (n:=x.natAbs) c (List.mem_of_mem_head? hc)
   omega
 unfold headB ofB
 cases hl:offTx x with
 | nil=>rfl
 | cons c l =>
  rw [hl] at hb;have:=hb c rfl;simp only [List.take_succ_cons,List.take_zero,List.all_cons,List.all_nil,Bool.and_true];have hk:∀k:Fin 256,45≤k.val∧k.val≤58→(kindN k.val &&& 1 != 0)=false:=by decide +kernel
  rw [hk ⟨c.toNat,c.toNat_lt⟩ this,Bool.and_false]
theorem set_head {l:List UInt8} (h:setB l=true):headB l=true∧l≠[45]:=by
 have h1:ofB 1 1 1 (l.take 1)=true:=by
  have:=h;simp only [setB,Bool.and_eq_true] at this;exact this.2
 refine ⟨?_,?_⟩
 ·unfold headB
  simp only [ofB,Bool.and_eq_true,decide_eq_true_eq] at h1 ⊢;exact ⟨⟨h1.1.1,by omega⟩,h1.2⟩
 ·rintro rfl
  exact absurd h (by decide +kernel)
theorem rules_by {e:EraP} (h:EraRight e):rulesR (byT e)=((e.kind,e.save,e.set),0):=by
 have hk:=h.kind
 rcases (by omega:e.kind=0∨e.kind=1∨e.kind=2) with h0|h0|h0
 ·have:byT e=[45]:=by unfold byT;rw [if_neg (by omega),if_neg (by omega)]
  rw [this,rulesR,if_pos rfl,h0,h.save0 (by omega),h.set0 (by omega)]
 ·have:byT e=offTx e.save:=by unfold byT;rw [if_pos h0]
  rw [this,rulesR,if_neg (off_not_dash _),off_no_head,if_neg (by decide),off_back (h.save1 h0),if_pos rfl,h0,h.set0 (by omega)]
 ·have:byT e=e.set:=by unfold byT;rw [if_neg (by omega),if_pos h0]
  obtain ⟨a,b⟩:=set_head (h.set2 h0);rw [this,rulesR,if_neg b,if_pos a,if_pos (h.set2 h0),h0,h.save0 (by omega)]
theorem until_len (u:UntilP):(untilFs u).length=if u.is=false then 0 else 1+lastN u:=by
 unfold untilFs;have:lastN u≤3:=by unfold lastN;(repeat' split)<;>omega
 split
 ·rfl
 ·rcases (by omega:lastN u=0∨lastN u=1∨lastN u=2∨lastN u=3) with h|h|h|h<;>rw [h]<;>simp
theorem lastN_le (u:UntilP):lastN u≤3:=by unfold lastN;(repeat' split)<;>omega
theorem era_back {e:EraP} (h:EraRight e):eraR (eraFs e)=(e,0):=by
 have hl:(eraFs e).length=3+(untilFs e.til).length:=by simp [eraFs];omega
 have hu:=until_len e.til;have hn:=lastN_le e.til;have e0:(eraFs e).getD 0 []=offTx e.off:=rfl;have e1:(eraFs e).getD 1 []=byT e:=rfl;have e2:(eraFs e).getD 2 []=e.fmt:=rfl;have e3:(eraFs e).drop 3=untilFs e.til:=rfl;unfold eraR;rw [e0,e1,e2,e3,off_back h.off,rules_by h,h.fmt];rw [if_neg (by rw [hl,hu];split<;>omega),if_neg (by simp),if_neg (by simp),if_neg (by simp)]
 by_cases hi:e.til.is=false
 ·rw [if_pos (by rw [hl,hu,if_pos hi])]
  have:=h.til.no hi;obtain ⟨_,_,_,_,_,t⟩:=e;simp only at this;subst this
  rfl
 ·have hi':e.til.is=true:=by simpa using hi
  rw [if_neg (by rw [hl,hu,if_neg hi];omega),until_fs h.til hi',if_neg (by simp)]
theorem era_none {l:List (List UInt8)} (h:(eraR l).2≠0):(eraR l).1=EraP.none:=by
 unfold eraR at h ⊢
 split
 ·rfl
 split
 ·rfl
 split
 ·rfl
 split
 ·rfl
 split
 ·rename_i h1 h2 h3 h4 h5
  rw [if_neg h1,if_neg h2,if_neg h3,if_neg h4,if_pos h5] at h;exact absurd rfl h
 split
 ·rfl
 ·rename_i h1 h2 h3 h4 h5 h6
  rw [if_neg h1,if_neg h2,if_neg h3,if_neg h4,if_neg h5,if_neg h6] at h;exact absurd rfl h
theorem joinS_flat (a:List UInt8) (l:List (List UInt8)):joinS (a::l)=a++l.flatMap fun x=>32::x:=by
 induction l generalizing a with
 | nil=>simp [joinS]
 | cons b l ih =>
  rw [show joinS (a::b::l)=a++32::joinS (b::l) from if_neg (by simp),ih]
  simp
open Go.RowKit Go.Lib
def failV (x:Int):Value:=.iface 134 (.agg #[.int .i64 x])
def Fails (x:Int):Ending:=.panicked [{ v:=failV x,recovered:=false }]
def orFail (v:Value) (x:Int):Ending:=if x=0 then .returned v else Fails x
theorem orFail_ok (v:Value):orFail v 0=.returned v:=rfl
theorem orFail_no (v:Value) {x:Int} (h:x≠0):orFail v x=Fails x:=if_neg h
theorem must_yes (x:Int) (w:World):Calls Tryz.prog 71 #[.bool true,.int .i64 x] w fun e w'=>e=.returned (.tuple #[])∧w=w':=by
 go_enter Tryz.func71,Tryz.ntmps71;go_wp2_with fail
 go_end0
 exact ⟨rfl,rfl⟩
theorem must_no (x:Int) (w:World):Calls Tryz.prog 71 #[.bool false,.int .i64 x] w fun e w'=>e=Fails x∧w=w':=by
 go_enter Tryz.func71,Tryz.ntmps71;go_wp2_with fail
 exact ⟨rfl,rfl,rfl⟩
theorem need64_ok (x:Int) (w:World):Calls Tryz.prog 155 #[.int .i64 x,.int .i64 0] w fun e w'=>e=.returned (.int .i64 x)∧w=w':=by
 go_enter Tryz.func155,Tryz.ntmps155;go_wp2_with fail
 go_ret
 exact ⟨rfl,rfl⟩
theorem need64_no (x:Int) (c:Int) (hc:c≠0) (w:World):Calls Tryz.prog 155 #[.int .i64 x,.int .i64 c] w fun e w'=>e=Fails c∧w=w':=by
 have hb:(c != 0)=true:=by rw [bne_iff_ne];exact hc
 clear hc
 go_enter Tryz.func155,Tryz.ntmps155;go_wp2_with fail
 exact ⟨rfl,rfl,rfl⟩
theorem needInt_ok (x:Int) (w:World):Calls Tryz.prog 159 #[.int .i64 x,.int .i64 0] w fun e w'=>e=.returned (.int .i64 x)∧w=w':=by
 go_enter Tryz.func159,Tryz.ntmps159;go_wp2_with fail
 go_ret
 exact ⟨rfl,rfl⟩
theorem needInt_no (x:Int) (c:Int) (hc:c≠0) (w:World):Calls Tryz.prog 159 #[.int .i64 x,.int .i64 c] w fun e w'=>e=Fails c∧w=w':=by
 have hb:(c != 0)=true:=by rw [bne_iff_ne];exact hc
 clear hc
 go_enter Tryz.func159,Tryz.ntmps159;go_wp2_with fail
 exact ⟨rfl,rfl,rfl⟩
theorem needDay_ok (x0 x1 x2:Int) (w:World):Calls Tryz.prog 161 #[.agg #[.int .i64 x0,.int .i64 x1,.int .i64 x2],.int .i64 0] w fun e w'=>e=.returned (.agg #[.int .i64 x0,.int .i64 x1,.int .i64 x2])∧Below w.heap.size w w':=by
 go_enter Tryz.func161,Tryz.ntmps161;go_wp2_with fail
 refine bodyPost_ret (by simp [results,Tryz.results161,go_sem];rfl) rfl ⟨?_,?_⟩
 ·rfl
 ·go_grown
theorem needDay_no (x0 x1 x2:Int) (c:Int) (hc:c≠0) (w:World):Calls Tryz.prog 161 #[.agg #[.int .i64 x0,.int .i64 x1,.int .i64 x2],.int .i64 c] w fun e w'=>e=Fails c∧Below w.heap.size w w':=by
 have hb:(c != 0)=true:=by rw [bne_iff_ne];exact hc
 clear hc
 go_enter Tryz.func161,Tryz.ntmps161;go_wp2_with fail
 exact ⟨rfl,rfl,by go_grown⟩
theorem needClock_ok (x0 x1:Int) (w:World):Calls Tryz.prog 163 #[.agg #[.int .i64 x0,.int .i64 x1],.int .i64 0] w fun e w'=>e=.returned (.agg #[.int .i64 x0,.int .i64 x1])∧Below w.heap.size w w':=by
 go_enter Tryz.func163,Tryz.ntmps163;go_wp2_with fail
 refine bodyPost_ret (by simp [results,Tryz.results163,go_sem];rfl) rfl ⟨?_,?_⟩
 ·rfl
 ·go_grown
theorem needClock_no (x0 x1:Int) (c:Int) (hc:c≠0) (w:World):Calls Tryz.prog 163 #[.agg #[.int .i64 x0,.int .i64 x1],.int .i64 c] w fun e w'=>e=Fails c∧Below w.heap.size w w':=by
 have hb:(c != 0)=true:=by rw [bne_iff_ne];exact hc
 clear hc
 go_enter Tryz.func163,Tryz.ntmps163;go_wp2_with fail
 exact ⟨rfl,rfl,by go_grown⟩
theorem enamed_any (y:Int) (w:World):Calls Tryz.prog 106 #[.int .i64 y] w fun e w'=>e=.returned (.bool (namedB y))∧w=w':=by
 obtain ⟨r,hr⟩:∃r,namedB y=r:=⟨_,rfl⟩;rw [hr]
 cases r with
 | true =>
  obtain ⟨h1,h2⟩:=of_decide_eq_true hr;clear hr
  go_enter Tryz.func106,Tryz.ntmps106;go_wp2_with fail
  go_ret
  exact ⟨rfl,rfl⟩
 | false =>
  have hc:=of_decide_eq_false hr
  rcases (by omega:¬1850≤y∨(1850≤y∧¬y≤2149)) with h1|⟨h1,h2⟩
  all_goals
   clear hr hc
   go_enter Tryz.func106,Tryz.ntmps106;go_wp2_with fail
   go_ret
   exact ⟨rfl,rfl⟩
theorem eletter_any (s:ByteArray) (w:World) (hs:s.size≤1048576):Calls Tryz.prog 186 #[.string s] w fun e w'=>e=.returned (.bool (headB s.data.toList))∧Below w.heap.size w w':=by
 by_cases h0:s.data.toList=[]
 ·have hem:s.toList.isEmpty=true:=by rw [Lib.toList_data,h0];rfl
  have hem2:(s.toList==[])=true:=by rw [Lib.toList_data,h0];rfl
  have HB:=hid (show headB s.data.toList=false by rw [h0];rfl);clear h0
  go_enter Tryz.func186,Tryz.ntmps186;go_wp2_with fail
  go_ret
  exact ⟨by rw [HB.out];rfl,Below.refl _ _⟩
 ·have hem:s.toList.isEmpty=false:=by rw [Lib.toList_data];cases h:s.data.toList with | nil=>exact absurd h h0 | cons a l=>rfl
  have hsz:(1:Int)≤(s.size:Int):=by
   have:s.data.toList.length=s.size:=by simp
   cases h:s.data.toList with
   | nil=>exact absurd h h0
   | cons a l=>rw [h] at this;simp at this;omega
  have HL:=hid (show ∀W,Calls Tryz.prog 34 #[.string (s.extract 0 1)] W fun e w'=>e=.returned (.bool (headB s.data.toList))∧Below W.heap.size W w' from fun W=>by
   have h:=letter_any (s.extract 0 1) W (size_part _ _ _ _ hs);rwa [list_upto] at h)
  clear h0
  go_enter Tryz.func186,Tryz.ntmps186;go_wp2_with fail
  refine (HL.out _).mono ?_;rintro e w1 ⟨rfl,hb⟩;go_wp2_with fail
  go_ret
  exact ⟨rfl,hb⟩
def badR (r:Nat):Bool:=decide (r<33)||decide (126<r)||decide (r=34)||decide (r=35)
theorem bad_fmt (c:UInt8):badR c.toNat = !fmtC c:=by
 unfold badR fmtC
 by_cases h1:c.toNat<33<;>by_cases h2:126<c.toNat<;>by_cases h3:c.toNat=34<;>by_cases h4:c.toNat=35<;>simp [h1,h2,h3,h4]<;>omega
theorem bad_high {r:Nat} (h:128≤r):badR r=true:=by
 unfold badR;rw [show decide (126<r)=true from decide_eq_true (by omega)]
 simp
theorem idx_from (s:ByteArray):∀(f pos:Nat),s.size≤pos+f→(idxFuncFrom badR true s f pos = -1 ↔ ∀c ∈ s.data.toList.drop pos,fmtC c=true)
 | 0,pos,h=>by
  rw [List.drop_eq_nil_of_le (by simpa using h)]
  simp [idxFuncFrom]
 | f+1,pos,h=>by
  have hl:s.data.toList.length=s.size:=by simp
  unfold idxFuncFrom
  by_cases hp:pos<s.size
  ·rw [if_pos hp,List.drop_eq_getElem_cons (by omega)]
   have e1:s.data.toList[pos]'(by omega)=s[pos]'hp:=rfl
   by_cases hb:(s[pos]'hp).toNat<128
   ·have hd:=decode_ascii s pos hp hb
    rw [hd];simp only
    by_cases hbad:badR (s[pos]'hp).toNat=true
    ·rw [if_pos hbad]
     constructor
     ·intro h;omega
     ·intro h
      have:=h _ (List.mem_cons_self);rw [e1] at this;rw [bad_fmt,this] at hbad;exact absurd hbad (by decide)
    ·rw [if_neg hbad,idx_from s f (pos+1) (by omega)]
     have hg:fmtC (s[pos]'hp)=true:=by
      rw [bad_fmt] at hbad
      simpa using hbad
     rw [e1]
     simp [hg]
   ·have hh:=(decode_high s pos hp (by omega)).1
    rw [if_pos (bad_high hh)]
    constructor
    ·intro h;omega
    ·intro h
     have:=h _ (List.mem_cons_self);rw [e1] at this;simp only [fmtC,decide_eq_true_eq] at this
     omega
  ·rw [if_neg hp,List.drop_eq_nil_of_le (by omega)]
   simp
theorem fmt_idx (s:ByteArray):fmtB s.data.toList=(decide (1≤s.size∧s.size≤20) && !decide (0≤idxFunc badR true s)):=by
 have h:=idx_from s s.size 0 (by omega);have hl:s.data.toList.length=s.size:=by simp
 unfold fmtB;rw [hl]
 congr 1
 rw [Bool.eq_iff_iff,List.all_eq_true]
 rcases idxFunc_range badR true s with h1|⟨h1,h2⟩
 ·rw [h1]
  simp only [List.drop_zero] at h;exact ⟨fun _=>rfl,fun _=>h.1 h1⟩
 ·constructor
  ·intro h3
   have:=h.2 (by simpa using h3);unfold idxFunc at h1
   omega
  ·intro h3
   simp [h1] at h3
theorem isBad (w:World):PredAt Tryz.prog 104 #[] encR badR w:=fun W r _=>by
 unfold FnGives badR
 by_cases h1:r<33<;>by_cases h2:126<r<;>by_cases h3:r=34<;>by_cases h4:r=35
 all_goals first|(exfalso;omega)|skip
 all_goals
  have z1:(r:Int)<33↔r<33:=by omega
  have z2:(126:Int)<(r:Int)↔126<r:=by omega
  have z3:((r:Int)==34)=decide (r=34):=by
   by_cases h:r=34
   ·subst h;rfl
   ·rw [decide_eq_false h,beq_eq_false_iff_ne];omega
  have z4:((r:Int)==35)=decide (r=35):=by
   by_cases h:r=35
   ·subst h;rfl
   ·rw [decide_eq_false h,beq_eq_false_iff_ne];omega
  go_enter Tryz.func104,Tryz.ntmps104
  go_wp2
  all_goals first|(exfalso;omega)|(go_ret;exact ⟨by simp [h1,h2,h3,h4],0,rfl⟩)
theorem written_any (s:ByteArray) (w:World) (hs:s.size≤1048576):Calls Tryz.prog 72 #[.string s] w fun e w'=>e=.returned (.bool (fmtB s.data.toList))∧Below w.heap.size w w':=by
 have hF:=fmt_idx s
 by_cases h1:1≤s.size
 ·by_cases h2:s.size≤20
  ·rw [decide_eq_true (And.intro h1 h2),Bool.true_and] at hF
   have hC:=Any.strings_ContainsFunc Tryz.laysGw17 104 #[] (enters_of Tryz.func104 (by kernel_rfl) rfl) badR s w (isBad w)
   change Calls Tryz.prog 105 _ _ _ at hC
   have HC:=hid hC;have HF:=hid hF;clear hC hF;generalize decide (0≤idxFunc badR true s)=r at *;have z1:(1:Int)≤(s.size:Int):=by omega
   have z2:(s.size:Int)≤20:=by omega
   go_enter Tryz.func72,Tryz.ntmps72;go_wp2_with fail
   refine HC.out.mono ?_;rintro e w1 ⟨rfl,hb⟩;go_wp2_with fail
   go_ret
   exact ⟨by rw [HF.out];rfl,hb⟩
  ·have HF:=hid (show fmtB s.data.toList=false by rw [hF,decide_eq_false (fun h=>h2 h.2)];rfl)
   have z1:(1:Int)≤(s.size:Int):=by omega
   have z2:¬(s.size:Int)≤20:=by omega
   clear hF
   go_enter Tryz.func72,Tryz.ntmps72;go_wp2_with fail
   go_ret
   exact ⟨by rw [HF.out];rfl,Below.refl _ _⟩
 ·have HF:=hid (show fmtB s.data.toList=false by rw [hF,decide_eq_false (fun h=>h1 h.1)];rfl)
  have z1:¬(1:Int)≤(s.size:Int):=by omega
  clear hF
  go_enter Tryz.func72,Tryz.ntmps72;go_wp2_with fail
  go_ret
  exact ⟨by rw [HF.out];rfl,Below.refl _ _⟩
open Go.RowKit
theorem eyear_any (s:ByteArray) (w:World) (hs:s.size≤1048576) (hP:Pows w) (hE:ErrSyn w) (hR:ErrRan w) :
 Calls Tryz.prog 158 #[.string s] w fun e w'=>e=orFail (.int .i64 (yearR s.data.toList).1) (yearR s.data.toList).2∧Below w.heap.size w w':=by
 by_cases hok:∃v,Lib.atoiAll s.data.toList=.ok v
 ·obtain ⟨v,hv⟩:=hok
  have HA:=hid (atoi_ok s w hs v hv)
  by_cases hy:1≤v∧v≤9999
  ·obtain ⟨h1,h2⟩:=hy
   have HI:=hid (show ∀W,Below w.heap.size w W→Calls Tryz.prog 35 #[.int .i64 v] W fun e w'=>e=.returned (.string ⟨(Lib.itoa v).toArray⟩)∧Below W.heap.size W w' from fun W hW=>itoa_any v W (hP.below hW) (by omega) (by omega))
   by_cases he:Lib.itoa v=s.data.toList
   ·obtain ⟨n,rfl⟩:=Int.eq_ofNat_of_zero_le (show 0≤v by omega)
    rw [Lib.itoa_nonneg] at he HI;have hval:valD s.data.toList=n:=by rw [←he];exact (dec_all n).2.1
    have HY:=hid (show yearR s.data.toList=if namedB n=true then ((n:Int),0) else (0,3) by
     rw [yearR,if_pos (by rw [←he];exact isYear_dec n (by omega) (by omega)),hval]
     by_cases hn:1850≤n∧n≤2149
     ·rw [if_pos hn,if_pos (show namedB n=true from decide_eq_true (by omega))]
     ·rw [if_neg hn,if_neg (fun h=>by have:=of_decide_eq_true h;omega)])
    have hse:(⟨(Lib.decDigits n).toArray⟩:ByteArray)=s:=by rw [he]
    rw [hse] at HI;have hne:(s.toList==s.toList)=true:=by simp
    clear hP hE hR hv he hval hse
    cases hn:namedB n
    ·rw [hn,if_neg (by decide)] at HY
     have HN:=hid hn;have HNn:=hid (fun W=>enamed_any n W);clear hn
     go_enter Tryz.func158,Tryz.ntmps158;go_wp2_with fail
     refine HA.out.mono ?_;rintro e w1 ⟨rfl,hb1⟩;go_wp2_with fail
     refine (HI.out _ hb1).mono ?_;rintro e w2 ⟨rfl,hb2⟩;have HB:=hid (hb1.trans (hb2.mono hb1.size));clear hb1 hb2 HI HA;go_wp2_with fail
     refine (must_yes _ _).mono ?_;rintro e w3 ⟨rfl,rfl⟩;go_wp2_with fail
     refine (HNn.out _).mono ?_;rintro e w3 ⟨rfl,rfl⟩;rw [HN.out];go_wp2_with fail
     refine (must_no _ _).mono ?_;rintro e w3 ⟨rfl,rfl⟩;exact ⟨rfl,by rw [HY.out];rfl,HB.out⟩
    ·rw [hn,if_pos rfl] at HY
     have HN:=hid hn;have HNn:=hid (fun W=>enamed_any n W);clear hn
     go_enter Tryz.func158,Tryz.ntmps158;go_wp2_with fail
     refine HA.out.mono ?_;rintro e w1 ⟨rfl,hb1⟩;go_wp2_with fail
     refine (HI.out _ hb1).mono ?_;rintro e w2 ⟨rfl,hb2⟩;have HB:=hid (hb1.trans (hb2.mono hb1.size));clear hb1 hb2 HI HA;go_wp2_with fail
     refine (must_yes _ _).mono ?_;rintro e w3 ⟨rfl,rfl⟩;go_wp2_with fail
     refine (HNn.out _).mono ?_;rintro e w3 ⟨rfl,rfl⟩;rw [HN.out];go_wp2_with fail
     refine (must_yes _ _).mono ?_;rintro e w3 ⟨rfl,rfl⟩;go_wp2_with fail
     go_ret
     exact ⟨by rw [HY.out];rfl,HB.out⟩
   ·have HY:=hid (show yearR s.data.toList=(0,5) from if_neg (fun h=>by
     obtain ⟨k1,_,_,k4⟩:=year_ok h;rw [hv] at k1
     injection k1 with k1
     exact he (by rw [k1];exact k4)))
    generalize Lib.itoa v=il at *;have hne:(il != s.data.toList)=true:=by rw [bne_iff_ne];exact he
    have hne3:(il==s.toList)=false:=by rw [beq_eq_false_iff_ne,Lib.toList_data];exact he
    have hne2:((⟨il.toArray⟩:ByteArray).toList != s.toList)=true:=by rw [bne_iff_ne,Lib.toList_data,Lib.toList_data];exact he
    clear hP hE hR hv he
    go_enter Tryz.func158,Tryz.ntmps158;go_wp2_with fail
    refine HA.out.mono ?_;rintro e w1 ⟨rfl,hb1⟩;go_wp2_with fail
    refine (HI.out _ hb1).mono ?_;rintro e w2 ⟨rfl,hb2⟩;have HB:=hid (hb1.trans (hb2.mono hb1.size));clear hb1 hb2 HI HA;go_wp2_with fail
    refine (must_no _ _).mono ?_;rintro e w3 ⟨rfl,rfl⟩;exact ⟨rfl,by rw [HY.out];rfl,HB.out⟩
  ·have HY:=hid (show yearR s.data.toList=(0,5) from if_neg (fun h=>by
    obtain ⟨k1,k2,k3,_⟩:=year_ok h;rw [hv] at k1
    injection k1 with k1
    omega))
   clear hP hE hR hv
   rcases (by omega:v<1∨(¬v<1∧9999<v)) with h1|⟨h1,h2⟩
   all_goals
    clear hy
    go_enter Tryz.func158,Tryz.ntmps158;go_wp2_with fail
    refine HA.out.mono ?_;rintro e w1 ⟨rfl,hb1⟩;have HB:=hid hb1;clear hb1 HA;go_wp2_with fail
    refine (must_no _ _).mono ?_;rintro e w3 ⟨rfl,rfl⟩;exact ⟨rfl,by rw [HY.out];rfl,HB.out⟩
 ·have HA:=hid (atoi_err s w hs hE hR (fun v hv=>hok ⟨v,hv⟩))
  have HY:=hid (show yearR s.data.toList=(0,5) from if_neg (fun h=>hok ⟨_,(year_ok h).1⟩));clear hP hE hR hok
  go_enter Tryz.func158,Tryz.ntmps158;go_wp2_with fail
  refine HA.out.mono ?_;rintro e w1 ⟨⟨n,t,p,rfl⟩,hb1⟩;have HB:=hid hb1;clear hb1 HA;go_wp2_with fail
  refine (must_no _ _).mono ?_;rintro e w3 ⟨rfl,rfl⟩;exact ⟨rfl,by rw [HY.out];rfl,HB.out⟩
theorem assert_fail (x:Int) (w:World):(Instr.typeAssert (failV x) 20 134 true).run Tryz.prog w=.ok (.tuple #[.agg #[.int .i64 x],.bool true]) w:=by kernel_rfl
theorem catch_fail (g:Nat) (y x:Int) (older:List PanicEntry) (w:World) (hB:Blk w g 38 #[.int .i64 y]) :
 CallsD Tryz.prog 69 #[.pointer (some ⟨g,0,none⟩)] (.panicking ({ v:=failV x,recovered:=false } :: older)) w fun e u' w' =>
  e=.returned (.tuple #[])∧u'=.panicking ({ v:=failV x,recovered:=true } :: older)∧w'=(w.alloc (.cells #[.int .i64 x] 134)).setCell ⟨g,0,none⟩ (.int .i64 x):=by
 have hc:=hB.cell_ (i:=0) rfl;have hz:=hB.frozen 0;have hlt:=hB.lt;have hta:=fun w=>assert_fail x w
 unfold failV at *;refine callsD_of_wpS Tryz.func69 rfl fun c₀ cs hu=>?_
 apply wpS_seq
 apply wpS_region
 simp [wpOpsS,go_sem,recoverD,hu,Tryz.ntmps69,Exit.thenS]
 apply wpS_seq
 apply wpS_region
 simp [wpOpsS,go_sem,Exit.thenS]
 refine wpS_cond (t:=true) (by simp [Act.eval,Array.replicate]) ?_;simp only [if_true]
 apply wpS_seq
 apply wpS_region
 simp [wpOpsS,go_sem,Exit.thenS,hta]
 apply wpS_seq
 apply wpS_seq
 apply wpS_region
 simp [wpOpsS,go_sem,Exit.thenS]
 refine wpS_cond (t:=false) (by simp [Act.eval,Array.replicate]) ?_;simp only [Bool.false_eq_true,if_false];refine wpS_of_wp (wp_skip ?_);simp only [Exit.thenS]
 apply wpS_region
 simp [wpOpsS,go_sem,hc,hz,hlt,bodyPostS,results,Tryz.results69]
theorem catch_idle (g:Nat) (w:World) :
 CallsD Tryz.prog 69 #[.pointer (some ⟨g,0,none⟩)] .returning w fun e u' w'=>e=.returned (.tuple #[])∧u'=.returning∧w'=w:=by
 refine callsD_of_wpS Tryz.func69 rfl fun c₀ cs hu=>?_
 apply wpS_seq
 apply wpS_region
 simp [wpOpsS,go_sem,recoverD,hu,Tryz.ntmps69,Exit.thenS]
 apply wpS_seq
 apply wpS_region
 simp [wpOpsS,go_sem,Exit.thenS]
 refine wpS_cond (t:=false) (by simp [Act.eval,Array.replicate]) ?_;simp only [Bool.false_eq_true,if_false];refine wpS_of_wp (wp_skip ?_)
 cases c₀
 simp_all [bodyPostS,results,Tryz.results69]
def DoneR (g:Nat) (Q:World→Prop) (w':World):Prop:=∃w2,Q w2∧w'=w2.setCell ⟨g,0,none⟩ (.int .i64 0)
theorem caughtR_ok (pa pb:Value) (w:World) (Q:World→Prop)
 (HD:Hid (Calls Tryz.prog 139 #[pa,pb] (w.alloc (.cells #[.int .i64 0] 38)) fun e w'=>e=.returned (.tuple #[])∧Blk w' w.heap.size 38 #[.int .i64 0]∧Q w')) :
 Calls Tryz.prog 38 #[.func (.func 139) #[] #[pa,pb]] w fun e w'=>e=.returned (.int .i64 0)∧DoneR w.heap.size Q w':=by
 have hmf:∀(fn:Fn) (first cap:Array Value) (w:World),(Instr.makeFunc fn first cap).run Tryz.prog w=.ok (.func fn first cap) w:=fun _ _ _ _=>rfl
 go_enter_defers Tryz.func38,Tryz.ntmps38
 go_wp2_with fail
 refine HD.out.mono ?_;rintro e w2 ⟨rfl,hB,hQ⟩;have HB:=hid hB;have HQ:=hid hQ;have hc:=hB.cell_ (i:=0) rfl;have hz:=hB.frozen 0;have hlt:=hB.lt;clear hB hQ;go_wp2_with fail
 refine leaves_cons (f:=69) (args:=#[.pointer (some ⟨w.heap.size,0,none⟩)]) (by simp) (by simp [go_sem]) ?_;refine (catch_idle w.heap.size _).mono ?_;rintro e u' w'' ⟨rfl,rfl,rfl⟩
 simp [Leaves,settle,results,Tryz.results38,go_sem,hc]
 exact ⟨w2,HQ.out,rfl⟩
def FellR (g:Nat) (x:Int) (Q:World→Prop) (w':World):Prop:=∃w2,Q w2∧w'=(w2.setCell ⟨g,0,none⟩ (.int .i64 x)).alloc (.cells #[.int .i64 x] 134)
theorem caughtR_no (pa pb:Value) (x:Int) (w:World) (Q:World→Prop)
 (HD:Hid (Calls Tryz.prog 139 #[pa,pb] (w.alloc (.cells #[.int .i64 0] 38)) fun e w'=>e=Fails x∧Blk w' w.heap.size 38 #[.int .i64 0]∧Q w')) :
 Calls Tryz.prog 38 #[.func (.func 139) #[] #[pa,pb]] w fun e w'=>e=.returned (.int .i64 x)∧FellR w.heap.size x Q w':=by
 have hmf:∀(fn:Fn) (first cap:Array Value) (w:World),(Instr.makeFunc fn first cap).run Tryz.prog w=.ok (.func fn first cap) w:=fun _ _ _ _=>rfl
 go_enter_defers Tryz.func38,Tryz.ntmps38
 go_wp2_with fail
 refine HD.out.mono ?_;rintro e w2 ⟨rfl,hB,hQ⟩;have HB:=hid hB;have HQ:=hid hQ;have hc:=hB.cell_ (i:=0) rfl;have hz:=hB.frozen 0;have hlt:=hB.lt;clear hB hQ;unfold Fails;refine leaves_cons (f:=69) (args:=#[.pointer (some ⟨w.heap.size,0,none⟩)]) (by simp) (by simp [go_sem]) ?_;refine (catch_fail w.heap.size 0 x [] _ HB.out).mono ?_;rintro e u' w'' ⟨rfl,rfl,rfl⟩
 simp [Leaves,settle,results,Tryz.results38,go_sem,hc,hlt]
 exact ⟨w2,HQ.out,rfl⟩
theorem first_any (y:Int) (w:World):Calls Tryz.prog 135 #[.int .i64 y] w fun e w'=>e=.returned (.agg #[.bool true,.int .i64 y,.int .i64 1,.int .i64 1,.int .i64 0,.int .i64 1,.int .i64 0,.int .i64 0])∧Below w.heap.size w w':=by
 go_enter Tryz.func135,Tryz.ntmps135;go_wp2_with fail
 refine bodyPost_ret (by simp [results,Tryz.results135,go_sem];rfl) rfl ⟨?_,?_⟩
 ·rfl
 ·go_grown
structure ETabs (w:World):Prop where
 kinds:Kinds w
 weeks:Weeks w
 folds:Folds w
 months:Months w
 units:Units w
 pows:Pows w
 esyn:ErrSyn w
 eran:ErrRan w
theorem ETabs.below {w w':World} (h:ETabs w) (hb:Below w.heap.size w w'):ETabs w' :=
 ⟨h.kinds.below hb,h.weeks.below hb,h.folds.below hb,h.months.below hb,h.units.below hb,h.pows.below hb,h.esyn.below hb,h.eran.below hb⟩
end Go.Proofs.YtboagmbmmoomiaaGreatDoor
