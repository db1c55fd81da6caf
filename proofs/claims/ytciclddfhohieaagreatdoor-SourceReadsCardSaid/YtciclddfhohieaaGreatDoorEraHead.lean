/-
  Eras as plain data: what is read out of fields, what is printed; what is printed is read again.
  Eras as plain data: fields left out, fields that are wrong, eras without a line.
  Small functions of eraline: must, need, named, letter, written, year: what each returns, or with what it panics.
  eraline.written and eraline.year: what each returns, or with what it panics.
  eraline.year: what it returns, or with what it panics.
  eraline.caught: the deferred closure in both modes; caught over a closure that returns or panics.
  eraline.amount, first, last: what each returns, or with what it panics.
  eraline.end: what it returns, or with what it panics.
-/
import Derived.Test.YtciclddfhohieaaGreatDoorOffAll
import Derived.Lib.Split
import Derived.Test.YtciclddfhohieaaGreatDoorShelf3
import Derived.Recover
import Derived.Defers
import Derived.Outline
set_option linter.unusedVariables false
set_option maxRecDepth 100000
set_option maxHeartbeats 4000000
namespace Go.Proofs.YtciclddfhohieaaGreatDoor
open Go.RowKit
structure UntilP where
 is:Bool
 year:Int
 mon:Int
 day:Int × Int × Int
 hour:Int × Int
structure EraP where
 off:Int
 kind:Int
 save:Int
 set:List UInt8
 fmt:List UInt8
 til:UntilP
def UntilP.none:UntilP:=⟨false,0,0,(0,0,0),(0,0)⟩
def EraP.none:EraP:=⟨0,0,0,[],[],UntilP.none⟩
def UntilP.cells (u:UntilP):List Value:=[.bool u.is,.int .i64 u.year,.int .i64 u.mon,.int .i64 u.day.1,.int .i64 u.day.2.1,.int .i64 u.day.2.2,.int .i64 u.hour.1,.int .i64 u.hour.2]
def EraP.cells (e:EraP):Array Value:=#[.int .i64 e.off,.int .i64 e.kind,.int .i64 e.save,.string ⟨e.set.toArray⟩,.string ⟨e.fmt.toArray⟩,.bool e.til.is,.int .i64 e.til.year,.int .i64 e.til.mon,.int .i64 e.til.day.1,.int .i64 e.til.day.2.1,.int .i64 e.til.day.2.2,.int .i64 e.til.hour.1,.int .i64 e.til.hour.2]
def UntilP.arr (u:UntilP):Array Value:=#[.bool u.is,.int .i64 u.year,.int .i64 u.mon,.int .i64 u.day.1,.int .i64 u.day.2.1,.int .i64 u.day.2.2,.int .i64 u.hour.1,.int .i64 u.hour.2]
def fmtC (c:UInt8):Bool:=decide (33≤c.toNat∧c.toNat≤126∧c.toNat≠34∧c.toNat≠35)
def fmtB (l:List UInt8):Bool:=decide (1≤l.length∧l.length≤20)&&l.all fmtC
def headB (l:List UInt8):Bool:=ofB 1 4 1 (l.take 1)
def rulesR (l:List UInt8):(Int × Int × List UInt8) × Int :=
 if l=[45] then ((0,0,[]),0)
 else if headB l=true then (if setB l=true then ((2,0,l),0) else ((0,0,[]),9))
 else if (offParseR l).2=0 then ((1,(offParseR l).1,[]),0) else ((0,0,[]),(offParseR l).2)
def endR_ (l:List (List UInt8)):UntilP × Int :=
 if (yearR (l.getD 0 [])).2≠0 then (UntilP.none,(yearR (l.getD 0 [])).2)
 else if 1<l.length∧(wordR monthL 1 (l.getD 1 [])).2≠0 then (UntilP.none,(wordR monthL 1 (l.getD 1 [])).2)
 else if 2<l.length∧(parseR (l.getD 2 [])).2≠0 then (UntilP.none,(parseR (l.getD 2 [])).2)
 else if 3<l.length∧(clockR (l.getD 3 [])).2≠0 then (UntilP.none,(clockR (l.getD 3 [])).2)
 else (⟨true,(yearR (l.getD 0 [])).1,if 1<l.length then (wordR monthL 1 (l.getD 1 [])).1 else 1,if 2<l.length then (parseR (l.getD 2 [])).1 else (1,0,1),if 3<l.length then (clockR (l.getD 3 [])).1 else (0,0)⟩,0)
def eraR (l:List (List UInt8)):EraP × Int :=
 if l.length<3∨7<l.length then (EraP.none,5)
 else if (offParseR (l.getD 0 [])).2≠0 then (EraP.none,(offParseR (l.getD 0 [])).2)
 else if (rulesR (l.getD 1 [])).2≠0 then (EraP.none,(rulesR (l.getD 1 [])).2)
 else if fmtB (l.getD 2 [])=false then (EraP.none,15)
 else if l.length=3 then (⟨(offParseR (l.getD 0 [])).1,(rulesR (l.getD 1 [])).1.1,(rulesR (l.getD 1 [])).1.2.1,(rulesR (l.getD 1 [])).1.2.2,l.getD 2 [],UntilP.none⟩,0)
 else if (endR_ (l.drop 3)).2≠0 then (EraP.none,(endR_ (l.drop 3)).2)
 else (⟨(offParseR (l.getD 0 [])).1,(rulesR (l.getD 1 [])).1.1,(rulesR (l.getD 1 [])).1.2.1,(rulesR (l.getD 1 [])).1.2.2,l.getD 2 [],(endR_ (l.drop 3)).1⟩,0)
theorem era_none {l:List (List UInt8)} (h:(eraR l).2≠0):(eraR l).1=EraP.none:=by
 unfold eraR at h ⊢
 split
 ·rfl
 split
 ·rfl
 split
 ·rfl
 split
 ·rfl
 split
 ·rename_i h1 h2 h3 h4 h5
  rw [if_neg h1,if_neg h2,if_neg h3,if_neg h4,if_pos h5] at h;exact absurd rfl h
 split
 ·rfl
 ·rename_i h1 h2 h3 h4 h5 h6
  rw [if_neg h1,if_neg h2,if_neg h3,if_neg h4,if_neg h5,if_neg h6] at h;exact absurd rfl h
open Go.RowKit Go.Lib
def failV (x:Int):Value:=.iface 207 (.agg #[.int .i64 x])
def Fails (x:Int):Ending:=.panicked [{ v:=failV x,recovered:=false }]
def orFail (v:Value) (x:Int):Ending:=if x=0 then .returned v else Fails x
theorem orFail_ok (v:Value):orFail v 0=.returned v:=rfl
theorem orFail_no (v:Value) {x:Int} (h:x≠0):orFail v x=Fails x:=if_neg h
theorem must_yes (x:Int) (w:World):Calls Tryz.prog 127 #[.bool true,.int .i64 x] w fun e w'=>e=.returned (.tuple #[])∧w=w':=by
 go_enter Tryz.func127,Tryz.ntmps127;go_wp2_with fail
 go_end0
 exact ⟨rfl,rfl⟩
theorem must_no (x:Int) (w:World):Calls Tryz.prog 127 #[.bool false,.int .i64 x] w fun e w'=>e=Fails x∧w=w':=by
 go_enter Tryz.func127,Tryz.ntmps127;go_wp2_with fail
 exact ⟨rfl,rfl,rfl⟩
theorem need64_ok (x:Int) (w:World):Calls Tryz.prog 128 #[.int .i64 x,.int .i64 0] w fun e w'=>e=.returned (.int .i64 x)∧w=w':=by
 go_enter Tryz.func128,Tryz.ntmps128;go_wp2_with fail
 go_ret
 exact ⟨rfl,rfl⟩
theorem need64_no (x:Int) (c:Int) (hc:c≠0) (w:World):Calls Tryz.prog 128 #[.int .i64 x,.int .i64 c] w fun e w'=>e=Fails c∧w=w':=by
 have hb:(c != 0)=true:=by rw [bne_iff_ne];exact hc
 clear hc
 go_enter Tryz.func128,Tryz.ntmps128;go_wp2_with fail
 exact ⟨rfl,rfl,rfl⟩
theorem needInt_ok (x:Int) (w:World):Calls Tryz.prog 134 #[.int .i64 x,.int .i64 0] w fun e w'=>e=.returned (.int .i64 x)∧w=w':=by
 go_enter Tryz.func134,Tryz.ntmps134;go_wp2_with fail
 go_ret
 exact ⟨rfl,rfl⟩
theorem needInt_no (x:Int) (c:Int) (hc:c≠0) (w:World):Calls Tryz.prog 134 #[.int .i64 x,.int .i64 c] w fun e w'=>e=Fails c∧w=w':=by
 have hb:(c != 0)=true:=by rw [bne_iff_ne];exact hc
 clear hc
 go_enter Tryz.func134,Tryz.ntmps134;go_wp2_with fail
 exact ⟨rfl,rfl,rfl⟩
theorem needDay_ok (x0 x1 x2:Int) (w:World):Calls Tryz.prog 136 #[.agg #[.int .i64 x0,.int .i64 x1,.int .i64 x2],.int .i64 0] w fun e w'=>e=.returned (.agg #[.int .i64 x0,.int .i64 x1,.int .i64 x2])∧Below w.heap.size w w':=by
 go_enter Tryz.func136,Tryz.ntmps136;go_wp2_with fail
 refine bodyPost_ret (by simp [results,Tryz.results136,go_sem];rfl) rfl ⟨?_,?_⟩
 ·rfl
 ·go_grown
theorem needDay_no (x0 x1 x2:Int) (c:Int) (hc:c≠0) (w:World):Calls Tryz.prog 136 #[.agg #[.int .i64 x0,.int .i64 x1,.int .i64 x2],.int .i64 c] w fun e w'=>e=Fails c∧Below w.heap.size w w':=by
 have hb:(c != 0)=true:=by rw [bne_iff_ne];exact hc
 clear hc
 go_enter Tryz.func136,Tryz.ntmps136;go_wp2_with fail
 exact ⟨rfl,rfl,by go_grown⟩
theorem needClock_ok (x0 x1:Int) (w:World):Calls Tryz.prog 138 #[.agg #[.int .i64 x0,.int .i64 x1],.int .i64 0] w fun e w'=>e=.returned (.agg #[.int .i64 x0,.int .i64 x1])∧Below w.heap.size w w':=by
 go_enter Tryz.func138,Tryz.ntmps138;go_wp2_with fail
 refine bodyPost_ret (by simp [results,Tryz.results138,go_sem];rfl) rfl ⟨?_,?_⟩
 ·rfl
 ·go_grown
theorem needClock_no (x0 x1:Int) (c:Int) (hc:c≠0) (w:World):Calls Tryz.prog 138 #[.agg #[.int .i64 x0,.int .i64 x1],.int .i64 c] w fun e w'=>e=Fails c∧Below w.heap.size w w':=by
 have hb:(c != 0)=true:=by rw [bne_iff_ne];exact hc
 clear hc
 go_enter Tryz.func138,Tryz.ntmps138;go_wp2_with fail
 exact ⟨rfl,rfl,by go_grown⟩
theorem enamed_any (y:Int) (w:World):Calls Tryz.prog 180 #[.int .i64 y] w fun e w'=>e=.returned (.bool (namedB y))∧w=w':=by
 obtain ⟨r,hr⟩:∃r,namedB y=r:=⟨_,rfl⟩;rw [hr]
 cases r with
 | true =>
  obtain ⟨h1,h2⟩:=of_decide_eq_true hr;clear hr
  go_enter Tryz.func180,Tryz.ntmps180;go_wp2_with fail
  go_ret
  exact ⟨rfl,rfl⟩
 | false =>
  have hc:=of_decide_eq_false hr
  rcases (by omega:¬1850≤y∨(1850≤y∧¬y≤2149)) with h1|⟨h1,h2⟩
  all_goals
   clear hr hc
   go_enter Tryz.func180,Tryz.ntmps180;go_wp2_with fail
   go_ret
   exact ⟨rfl,rfl⟩
theorem eletter_any (s:ByteArray) (w:World) (hs:s.size≤1048576):Calls Tryz.prog 175 #[.string s] w fun e w'=>e=.returned (.bool (headB s.data.toList))∧Below w.heap.size w w':=by
 by_cases h0:s.data.toList=[]
 ·have hem:s.toList.isEmpty=true:=by rw [Lib.toList_data,h0];rfl
  have hem2:(s.toList==[])=true:=by rw [Lib.toList_data,h0];rfl
  have HB:=Lib.hid (show headB s.data.toList=false by rw [h0];rfl);clear h0
  go_enter Tryz.func175,Tryz.ntmps175;go_wp2_with fail
  go_ret
  exact ⟨by rw [HB.out];rfl,Below.refl _ _⟩
 ·have hem:s.toList.isEmpty=false:=by rw [Lib.toList_data];cases h:s.data.toList with | nil=>exact absurd h h0 | cons a l=>rfl
  have hsz:(1:Int)≤(s.size:Int):=by
   have:s.data.toList.length=s.size:=by simp
   cases h:s.data.toList with
   | nil=>exact absurd h h0
   | cons a l=>rw [h] at this;simp at this;omega
  have HL:=Lib.hid (show ∀W,Calls Tryz.prog 190 #[.string (s.extract 0 1)] W fun e w'=>e=.returned (.bool (headB s.data.toList))∧Below W.heap.size W w' from fun W=>by
   have h:=letter_any (s.extract 0 1) W (size_part _ _ _ _ hs);rwa [list_upto] at h)
  clear h0
  go_enter Tryz.func175,Tryz.ntmps175;go_wp2_with fail
  refine (HL.out _).mono ?_;rintro e w1 ⟨rfl,hb⟩;go_wp2_with fail
  go_ret
  exact ⟨rfl,hb⟩
def badR (r:Nat):Bool:=decide (r<33)||decide (126<r)||decide (r=34)||decide (r=35)
theorem bad_fmt (c:UInt8):badR c.toNat = !fmtC c:=by
 unfold badR fmtC
 by_cases h1:c.toNat<33<;>by_cases h2:126<c.toNat<;>by_cases h3:c.toNat=34<;>by_cases h4:c.toNat=35<;>simp [h1,h2,h3,h4]<;>omega
theorem bad_high {r:Nat} (h:128≤r):badR r=true:=by
 unfold badR;rw [show decide (126<r)=true from decide_eq_true (by omega)]
 simp
theorem idx_from (s:ByteArray):∀(f pos:Nat),s.size≤pos+f→(idxFuncFrom badR true s f pos = -1 ↔ ∀c ∈ s.data.toList.drop pos,fmtC c=true)
 | 0,pos,h=>by
  rw [List.drop_eq_nil_of_le (by simpa using h)]
  simp [idxFuncFrom]
 | f+1,pos,h=>by
  have hl:s.data.toList.length=s.size:=by simp
  unfold idxFuncFrom
  by_cases hp:pos<s.size
  ·rw [if_pos hp,List.drop_eq_getElem_cons (by omega)]
   have e1:s.data.toList[pos]'(by omega)=s[pos]'hp:=rfl
   by_cases hb:(s[pos]'hp).toNat<128
   ·have hd:=decode_ascii s pos hp hb
    rw [hd];simp only
    by_cases hbad:badR (s[pos]'hp).toNat=true
    ·rw [if_pos hbad]
     constructor
     ·intro h;omega
     ·intro h
      have:=h _ (List.mem_cons_self);rw [e1] at this;rw [bad_fmt,this] at hbad;exact absurd hbad (by decide)
    ·rw [if_neg hbad,idx_from s f (pos+1) (by omega)]
     have hg:fmtC (s[pos]'hp)=true:=by
      rw [bad_fmt] at hbad
      simpa using hbad
     rw [e1]
     simp [hg]
   ·have hh:=(decode_high s pos hp (by omega)).1
    rw [if_pos (bad_high hh)]
    constructor
    ·intro h;omega
    ·intro h
     have:=h _ (List.mem_cons_self);rw [e1] at this;simp only [fmtC,decide_eq_true_eq] at this
     omega
  ·rw [if_neg hp,List.drop_eq_nil_of_le (by omega)]
   simp
theorem fmt_idx (s:ByteArray):fmtB s.data.toList=(decide (1≤s.size∧s.size≤20) && !decide (0≤idxFunc badR true s)):=by
 have h:=idx_from s s.size 0 (by omega);have hl:s.data.toList.length=s.size:=by simp
 unfold fmtB;rw [hl]
 congr 1
 rw [Bool.eq_iff_iff,List.all_eq_true]
 rcases idxFunc_range badR true s with h1|⟨h1,h2⟩
 ·rw [h1]
  simp only [List.drop_zero] at h;exact ⟨fun _=>rfl,fun _=>h.1 h1⟩
 ·constructor
  ·intro h3
   have:=h.2 (by simpa using h3);unfold idxFunc at h1
   omega
  ·intro h3
   simp [h1] at h3
theorem isBad (w:World):PredAt Tryz.prog 176 #[] encR badR w:=fun W r _=>by
 unfold FnGives badR
 by_cases h1:r<33<;>by_cases h2:126<r<;>by_cases h3:r=34<;>by_cases h4:r=35
 all_goals first|(exfalso;omega)|skip
 all_goals
  have z1:(r:Int)<33↔r<33:=by omega
  have z2:(126:Int)<(r:Int)↔126<r:=by omega
  have z3:((r:Int)==34)=decide (r=34):=by
   by_cases h:r=34
   ·subst h;rfl
   ·rw [decide_eq_false h,beq_eq_false_iff_ne];omega
  have z4:((r:Int)==35)=decide (r=35):=by
   by_cases h:r=35
   ·subst h;rfl
   ·rw [decide_eq_false h,beq_eq_false_iff_ne];omega
  go_enter Tryz.func176,Tryz.ntmps176
  go_wp2
  all_goals first|(exfalso;omega)|(go_ret;exact ⟨by simp [h1,h2,h3,h4],0,rfl⟩)
theorem written_any (s:ByteArray) (w:World) (hs:s.size≤1048576):Calls Tryz.prog 131 #[.string s] w fun e w'=>e=.returned (.bool (fmtB s.data.toList))∧Below w.heap.size w w':=by
 have hF:=fmt_idx s
 by_cases h1:1≤s.size
 ·by_cases h2:s.size≤20
  ·rw [decide_eq_true (And.intro h1 h2),Bool.true_and] at hF
   have hC:=Any.strings_ContainsFunc Tryz.laysGw17 176 #[] (enters_of Tryz.func176 (by kernel_rfl) rfl) badR s w (isBad w)
   change Calls Tryz.prog 177 _ _ _ at hC
   have HC:=Lib.hid hC;have HF:=Lib.hid hF;clear hC hF;generalize decide (0≤idxFunc badR true s)=r at *;have z1:(1:Int)≤(s.size:Int):=by omega
   have z2:(s.size:Int)≤20:=by omega
   go_enter Tryz.func131,Tryz.ntmps131;go_wp2_with fail
   refine HC.out.mono ?_;rintro e w1 ⟨rfl,hb⟩;go_wp2_with fail
   go_ret
   exact ⟨by rw [HF.out];rfl,hb⟩
  ·have HF:=Lib.hid (show fmtB s.data.toList=false by rw [hF,decide_eq_false (fun h=>h2 h.2)];rfl)
   have z1:(1:Int)≤(s.size:Int):=by omega
   have z2:¬(s.size:Int)≤20:=by omega
   clear hF
   go_enter Tryz.func131,Tryz.ntmps131;go_wp2_with fail
   go_ret
   exact ⟨by rw [HF.out];rfl,Below.refl _ _⟩
 ·have HF:=Lib.hid (show fmtB s.data.toList=false by rw [hF,decide_eq_false (fun h=>h1 h.1)];rfl)
  have z1:¬(1:Int)≤(s.size:Int):=by omega
  clear hF
  go_enter Tryz.func131,Tryz.ntmps131;go_wp2_with fail
  go_ret
  exact ⟨by rw [HF.out];rfl,Below.refl _ _⟩
open Go.RowKit
theorem eyear_any (s:ByteArray) (w:World) (hs:s.size≤1048576) (hP:Pows w) (hE:ErrSyn w) (hR:ErrRan w) :
 Calls Tryz.prog 133 #[.string s] w fun e w'=>e=orFail (.int .i64 (yearR s.data.toList).1) (yearR s.data.toList).2∧Below w.heap.size w w':=by
 by_cases hok:∃v,Lib.atoiAll s.data.toList=.ok v
 ·obtain ⟨v,hv⟩:=hok
  have HA:=Lib.hid (atoi_ok s w hs v hv)
  by_cases hy:1≤v∧v≤9999
  ·obtain ⟨h1,h2⟩:=hy
   have HI:=Lib.hid (show ∀W,Below w.heap.size w W→Calls Tryz.prog 179 #[.int .i64 v] W fun e w'=>e=.returned (.string ⟨(Lib.itoa v).toArray⟩)∧Below W.heap.size W w' from fun W hW=>itoa_any v W (hP.below hW) (by omega) (by omega))
   by_cases he:Lib.itoa v=s.data.toList
   ·obtain ⟨n,rfl⟩:=Int.eq_ofNat_of_zero_le (show 0≤v by omega)
    rw [Lib.itoa_nonneg] at he HI;have hval:valD s.data.toList=n:=by rw [←he];exact (dec_all n).2.1
    have HY:=Lib.hid (show yearR s.data.toList=if namedB n=true then ((n:Int),0) else (0,3) by
     rw [yearR,if_pos (by rw [←he];exact isYear_dec n (by omega) (by omega)),hval]
     by_cases hn:1850≤n∧n≤2149
     ·rw [if_pos hn,if_pos (show namedB n=true from decide_eq_true (by omega))]
     ·rw [if_neg hn,if_neg (fun h=>by have:=of_decide_eq_true h;omega)])
    have hse:(⟨(Lib.decDigits n).toArray⟩:ByteArray)=s:=by rw [he]
    rw [hse] at HI;have hne:(s.toList==s.toList)=true:=by simp
    clear hP hE hR hv he hval hse
    cases hn:namedB n
    ·rw [hn,if_neg (by decide)] at HY
     have HN:=Lib.hid hn;have HNn:=Lib.hid (fun W=>enamed_any n W);clear hn
     go_enter Tryz.func133,Tryz.ntmps133;go_wp2_with fail
     refine HA.out.mono ?_;rintro e w1 ⟨rfl,hb1⟩;go_wp2_with fail
     refine (HI.out _ hb1).mono ?_;rintro e w2 ⟨rfl,hb2⟩;have HB:=Lib.hid (hb1.trans (hb2.mono hb1.size));clear hb1 hb2 HI HA;go_wp2_with fail
     refine (must_yes _ _).mono ?_;rintro e w3 ⟨rfl,rfl⟩;go_wp2_with fail
     refine (HNn.out _).mono ?_;rintro e w3 ⟨rfl,rfl⟩;rw [HN.out];go_wp2_with fail
     refine (must_no _ _).mono ?_;rintro e w3 ⟨rfl,rfl⟩;exact ⟨rfl,by rw [HY.out];rfl,HB.out⟩
    ·rw [hn,if_pos rfl] at HY
     have HN:=Lib.hid hn;have HNn:=Lib.hid (fun W=>enamed_any n W);clear hn
     go_enter Tryz.func133,Tryz.ntmps133;go_wp2_with fail
     refine HA.out.mono ?_;rintro e w1 ⟨rfl,hb1⟩;go_wp2_with fail
     refine (HI.out _ hb1).mono ?_;rintro e w2 ⟨rfl,hb2⟩;have HB:=Lib.hid (hb1.trans (hb2.mono hb1.size));clear hb1 hb2 HI HA;go_wp2_with fail
     refine (must_yes _ _).mono ?_;rintro e w3 ⟨rfl,rfl⟩;go_wp2_with fail
     refine (HNn.out _).mono ?_;rintro e w3 ⟨rfl,rfl⟩;rw [HN.out];go_wp2_with fail
     refine (must_yes _ _).mono ?_;rintro e w3 ⟨rfl,rfl⟩;go_wp2_with fail
     go_ret
     exact ⟨by rw [HY.out];rfl,HB.out⟩
   ·have HY:=Lib.hid (show yearR s.data.toList=(0,5) from if_neg (fun h=>by
     obtain ⟨k1,_,_,k4⟩:=year_ok h;rw [hv] at k1
     injection k1 with k1
     exact he (by rw [k1];exact k4)))
    generalize Lib.itoa v=il at *;have hne:(il != s.data.toList)=true:=by rw [bne_iff_ne];exact he
    have hne3:(il==s.toList)=false:=by rw [beq_eq_false_iff_ne,Lib.toList_data];exact he
    have hne2:((⟨il.toArray⟩:ByteArray).toList != s.toList)=true:=by rw [bne_iff_ne,Lib.toList_data,Lib.toList_data];exact he
    clear hP hE hR hv he
    go_enter Tryz.func133,Tryz.ntmps133;go_wp2_with fail
    refine HA.out.mono ?_;rintro e w1 ⟨rfl,hb1⟩;go_wp2_with fail
    refine (HI.out _ hb1).mono ?_;rintro e w2 ⟨rfl,hb2⟩;have HB:=Lib.hid (hb1.trans (hb2.mono hb1.size));clear hb1 hb2 HI HA;go_wp2_with fail
    refine (must_no _ _).mono ?_;rintro e w3 ⟨rfl,rfl⟩;exact ⟨rfl,by rw [HY.out];rfl,HB.out⟩
  ·have HY:=Lib.hid (show yearR s.data.toList=(0,5) from if_neg (fun h=>by
    obtain ⟨k1,k2,k3,_⟩:=year_ok h;rw [hv] at k1
    injection k1 with k1
    omega))
   clear hP hE hR hv
   rcases (by omega:v<1∨(¬v<1∧9999<v)) with h1|⟨h1,h2⟩
   all_goals
    clear hy
    go_enter Tryz.func133,Tryz.ntmps133;go_wp2_with fail
    refine HA.out.mono ?_;rintro e w1 ⟨rfl,hb1⟩;have HB:=Lib.hid hb1;clear hb1 HA;go_wp2_with fail
    refine (must_no _ _).mono ?_;rintro e w3 ⟨rfl,rfl⟩;exact ⟨rfl,by rw [HY.out];rfl,HB.out⟩
 ·have HA:=Lib.hid (atoi_err s w hs hE hR (fun v hv=>hok ⟨v,hv⟩))
  have HY:=Lib.hid (show yearR s.data.toList=(0,5) from if_neg (fun h=>hok ⟨_,(year_ok h).1⟩));clear hP hE hR hok
  go_enter Tryz.func133,Tryz.ntmps133;go_wp2_with fail
  refine HA.out.mono ?_;rintro e w1 ⟨⟨n,t,p,rfl⟩,hb1⟩;have HB:=Lib.hid hb1;clear hb1 HA;go_wp2_with fail
  refine (must_no _ _).mono ?_;rintro e w3 ⟨rfl,rfl⟩;exact ⟨rfl,by rw [HY.out];rfl,HB.out⟩
theorem assert_fail (x:Int) (w:World):(Instr.typeAssert (failV x) 20 207 true).run Tryz.prog w=.ok (.tuple #[.agg #[.int .i64 x],.bool true]) w:=by kernel_rfl
theorem catch_fail (g:Nat) (y x:Int) (older:List PanicEntry) (w:World) (hB:Blk w g 37 #[.int .i64 y]) :
 CallsD Tryz.prog 126 #[.pointer (some ⟨g,0,none⟩)] (.panicking ({ v:=failV x,recovered:=false } :: older)) w fun e u' w' =>
  e=.returned (.tuple #[])∧u'=.panicking ({ v:=failV x,recovered:=true } :: older)∧w'=(w.alloc (.cells #[.int .i64 x] 207)).setCell ⟨g,0,none⟩ (.int .i64 x):=by
 have hc:=hB.cell_ (i:=0) rfl;have hz:=hB.frozen 0;have hlt:=hB.lt;have hta:=fun w=>assert_fail x w
 unfold failV at *;refine callsD_of_wpS Tryz.func126 rfl fun c₀ cs hu=>?_
 apply wpS_seq
 apply wpS_region
 simp [wpOpsS,go_sem,recoverD,hu,Tryz.ntmps126,Exit.thenS]
 apply wpS_seq
 apply wpS_region
 simp [wpOpsS,go_sem,Exit.thenS]
 refine wpS_cond (t:=true) (by simp [Act.eval,Array.replicate]) ?_;simp only [if_true]
 apply wpS_seq
 apply wpS_region
 simp [wpOpsS,go_sem,Exit.thenS,hta]
 apply wpS_seq
 apply wpS_seq
 apply wpS_region
 simp [wpOpsS,go_sem,Exit.thenS]
 refine wpS_cond (t:=false) (by simp [Act.eval,Array.replicate]) ?_;simp only [Bool.false_eq_true,if_false];refine wpS_of_wp (wp_skip ?_);simp only [Exit.thenS]
 apply wpS_region
 simp [wpOpsS,go_sem,hc,hz,hlt,bodyPostS,results,Tryz.results126]
theorem catch_idle (g:Nat) (w:World) :
 CallsD Tryz.prog 126 #[.pointer (some ⟨g,0,none⟩)] .returning w fun e u' w'=>e=.returned (.tuple #[])∧u'=.returning∧w'=w:=by
 refine callsD_of_wpS Tryz.func126 rfl fun c₀ cs hu=>?_
 apply wpS_seq
 apply wpS_region
 simp [wpOpsS,go_sem,recoverD,hu,Tryz.ntmps126,Exit.thenS]
 apply wpS_seq
 apply wpS_region
 simp [wpOpsS,go_sem,Exit.thenS]
 refine wpS_cond (t:=false) (by simp [Act.eval,Array.replicate]) ?_;simp only [Bool.false_eq_true,if_false];refine wpS_of_wp (wp_skip ?_)
 cases c₀
 simp_all [bodyPostS,results,Tryz.results126]
def DoneR (g:Nat) (Q:World→Prop) (w':World):Prop:=∃w2,Q w2∧w'=w2.setCell ⟨g,0,none⟩ (.int .i64 0)
theorem caughtR_ok (pa pb:Value) (w:World) (Q:World→Prop)
 (HD:Hid (Calls Tryz.prog 101 #[pa,pb] (w.alloc (.cells #[.int .i64 0] 37)) fun e w'=>e=.returned (.tuple #[])∧Blk w' w.heap.size 37 #[.int .i64 0]∧Q w')) :
 Calls Tryz.prog 100 #[.func (.func 101) #[] #[pa,pb]] w fun e w'=>e=.returned (.int .i64 0)∧DoneR w.heap.size Q w':=by
 have hmf:∀(fn:Fn) (first cap:Array Value) (w:World),(Instr.makeFunc fn first cap).run Tryz.prog w=.ok (.func fn first cap) w:=fun _ _ _ _=>rfl
 go_enter_defers Tryz.func100,Tryz.ntmps100
 go_wp2_with fail
 refine HD.out.mono ?_;rintro e w2 ⟨rfl,hB,hQ⟩;have HB:=Lib.hid hB;have HQ:=Lib.hid hQ;have hc:=hB.cell_ (i:=0) rfl;have hz:=hB.frozen 0;have hlt:=hB.lt;clear hB hQ;go_wp2_with fail
 refine leaves_cons (f:=126) (args:=#[.pointer (some ⟨w.heap.size,0,none⟩)]) (by simp) (by simp [go_sem]) ?_;refine (catch_idle w.heap.size _).mono ?_;rintro e u' w'' ⟨rfl,rfl,rfl⟩
 simp [Leaves,settle,results,Tryz.results100,go_sem,hc]
 exact ⟨w2,HQ.out,rfl⟩
def FellR (g:Nat) (x:Int) (Q:World→Prop) (w':World):Prop:=∃w2,Q w2∧w'=(w2.setCell ⟨g,0,none⟩ (.int .i64 x)).alloc (.cells #[.int .i64 x] 207)
theorem caughtR_no (pa pb:Value) (x:Int) (w:World) (Q:World→Prop)
 (HD:Hid (Calls Tryz.prog 101 #[pa,pb] (w.alloc (.cells #[.int .i64 0] 37)) fun e w'=>e=Fails x∧Blk w' w.heap.size 37 #[.int .i64 0]∧Q w')) :
 Calls Tryz.prog 100 #[.func (.func 101) #[] #[pa,pb]] w fun e w'=>e=.returned (.int .i64 x)∧FellR w.heap.size x Q w':=by
 have hmf:∀(fn:Fn) (first cap:Array Value) (w:World),(Instr.makeFunc fn first cap).run Tryz.prog w=.ok (.func fn first cap) w:=fun _ _ _ _=>rfl
 go_enter_defers Tryz.func100,Tryz.ntmps100
 go_wp2_with fail
 refine HD.out.mono ?_;rintro e w2 ⟨rfl,hB,hQ⟩;have HB:=Lib.hid hB;have HQ:=Lib.hid hQ;have hc:=hB.cell_ (i:=0) rfl;have hz:=hB.frozen 0;have hlt:=hB.lt;clear hB hQ;unfold Fails;refine leaves_cons (f:=126) (args:=#[.pointer (some ⟨w.heap.size,0,none⟩)]) (by simp) (by simp [go_sem]) ?_;refine (catch_fail w.heap.size 0 x [] _ HB.out).mono ?_;rintro e u' w'' ⟨rfl,rfl,rfl⟩
 simp [Leaves,settle,results,Tryz.results100,go_sem,hc,hlt]
 exact ⟨w2,HQ.out,rfl⟩
theorem first_any (y:Int) (w:World):Calls Tryz.prog 132 #[.int .i64 y] w fun e w'=>e=.returned (.agg #[.bool true,.int .i64 y,.int .i64 1,.int .i64 1,.int .i64 0,.int .i64 1,.int .i64 0,.int .i64 0])∧Below w.heap.size w w':=by
 go_enter Tryz.func132,Tryz.ntmps132;go_wp2_with fail
 refine bodyPost_ret (by simp [results,Tryz.results132,go_sem];rfl) rfl ⟨?_,?_⟩
 ·rfl
 ·go_grown
structure ETabs (w:World):Prop where
 kinds:Kinds w
 weeks:Weeks w
 folds:Folds w
 months:Months w
 units:Units w
 pows:Pows w
 esyn:ErrSyn w
 eran:ErrRan w
theorem ETabs.below {w w':World} (h:ETabs w) (hb:Below w.heap.size w w'):ETabs w' :=
 ⟨h.kinds.below hb,h.weeks.below hb,h.folds.below hb,h.months.below hb,h.units.below hb,h.pows.below hb,h.esyn.below hb,h.eran.below hb⟩
end Go.Proofs.YtciclddfhohieaaGreatDoor
