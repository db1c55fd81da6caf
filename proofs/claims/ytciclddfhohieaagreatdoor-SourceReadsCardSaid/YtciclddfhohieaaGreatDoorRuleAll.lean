/-
  ruleline.until, ruleline.letter, ruleline.set, the closures of ruleline.fields: what each call returns.
  ruleline.Parse: what the call returns.
  Rules and their lines, in plain Lean: the line of a rule that can be written is read as that rule, and what is read can be written.
  ruleline.last, ruleline.Print: what the calls return.
-/
import Derived.Test.YtciclddfhohieaaGreatDoorOffAll
import Derived.Test.YtciclddfhohieaaGreatDoorDayAll
import Derived.Handy
import Derived.Outline
import Derived.Deep.RegionHeld3
import Derived.BigQuiet
import Derived.Lib.Join
set_option linter.unusedVariables false
set_option maxRecDepth 100000
set_option maxHeartbeats 4000000
namespace Go.Proofs.YtciclddfhohieaaGreatDoor
open Go.RowKit
structure RTabs (w:World):Prop where
 kinds:Kinds w
 weeks:Weeks w
 folds:Folds w
 months:Months w
 tos:Tos w
 units:Units w
 pows:Pows w
 esyn:ErrSyn w
 eran:ErrRan w
theorem RTabs.below {w w':World} (h:RTabs w) (hb:Below w.heap.size w w'):RTabs w' :=
 ⟨h.kinds.below hb,h.weeks.below hb,h.folds.below hb,h.months.below hb,h.tos.below hb,h.units.below hb,h.pows.below hb,h.esyn.below hb,h.eran.below hb⟩
def untilR (l:List UInt8) (f:Int):Int × Int :=
 if (∃c ∈ l.head?,48≤c.toNat∧c.toNat≤57) then yearR l
 else if (wordR toL 1 l).2=0 then (if (wordR toL 1 l).1=1 then (f,0) else (1048576,0)) else (0,(wordR toL 1 l).2)
def letterR (l:List UInt8):List UInt8 × Int:=if l=[45] then ([],0) else if ofB 1 4 1 l=true then (l,0) else ([],5)
def setR (l:List UInt8):List UInt8 × Int:=if setB l=true then (l,0) else ([],9)
theorem until_year {l:List UInt8} {c:UInt8} (h:l.head? = some c) (hc:48≤c.toNat∧c.toNat≤57) (f:Int):untilR l f=yearR l:=if_pos ⟨c,h,hc⟩
theorem until_word {l:List UInt8} (h:∀c,l.head? = some c→¬(48≤c.toNat∧c.toNat≤57)) (f:Int):untilR l f=if (wordR toL 1 l).2=0 then (if (wordR toL 1 l).1=1 then (f,0) else (1048576,0)) else (0,(wordR toL 1 l).2) :=
 if_neg (fun ⟨c,h1,h2⟩=>h c h1 h2)
theorem until_any (s:ByteArray) (f:Int) (w:World) (hs:s.size≤1048576) (hT:RTabs w) :
 Calls Tryz.prog 147 #[.string s,.int .i64 f] w fun e w'=>e=.returned (.tuple #[.int .i64 (untilR s.data.toList f).1,.int .i64 (untilR s.data.toList f).2])∧Below w.heap.size w w':=by
 have HY:=Lib.hid (year_any s w hs hT.pows hT.esyn hT.eran);have HW:=Lib.hid (to_any s w hT.tos hs);clear hT
 by_cases h0:s.size=0
 ·obtain rfl:=empty_of h0
  have HR:=Lib.hid (show untilR (⟨#[]⟩:ByteArray).data.toList f=(0,8) from rfl);have HW2:Hid (Calls Tryz.prog 189 #[.string ⟨#[]⟩] w fun e w'=>e=.returned (.tuple #[.int .i64 0,.int .i64 8])∧Below w.heap.size w w'):=HW
  go_enter Tryz.func147,Tryz.ntmps147;go_wp2_with fail
  refine HW2.out.mono ?_;rintro e w1 ⟨rfl,hb1⟩;have HB:=Lib.hid hb1;clear hb1 HW HY HW2;go_wp2_with fail
  go_ret2
  exact ⟨by rw [HR.out];rfl,HB.out⟩
 obtain ⟨a,ha,hg⟩:=head_at h0;have hne:=list_empty h0;have hs0:0<s.size:=by omega
 have g0:∀h,(s[0]'h).toNat=a.toNat:=fun h=>by rw [hg]
 by_cases hd:48≤a.toNat∧a.toNat≤57
 ·have HR:=Lib.hid (until_year ha hd f)
  obtain ⟨h48,h57⟩:=hd;have h48i:(48:Int)≤(a.toNat:Int):=by omega
  have h57i:(a.toNat:Int)≤57:=by omega
  generalize yearR s.data.toList=y at *;clear hg ha HW h48 h57
  go_enter Tryz.func147,Tryz.ntmps147;go_wp2_with fail
  refine HY.out.mono ?_;rintro e w1 ⟨rfl,hb1⟩;have HB:=Lib.hid hb1;clear hb1 HY;go_wp2_with fail
  go_ret2
  exact ⟨by rw [HR.out];rfl,HB.out⟩
 ·have HR:=Lib.hid (until_word (l:=s.data.toList) (fun c hc=>by rw [ha] at hc;cases hc;exact hd) f)
  have hwe:=wordR_err toL 1 s.data.toList;generalize wordR toL 1 s.data.toList=y at *;obtain ⟨n,er⟩:=y;have hwe:er=0∨er=8:=hwe;clear hg ha HY h0
  rcases (by omega:(48≤(a.toNat:Int)∧¬(a.toNat:Int)≤57)∨¬48≤(a.toNat:Int)) with ⟨h48,h57⟩|h48
  all_goals
   clear hd
   go_enter Tryz.func147,Tryz.ntmps147;go_wp2_with fail
   refine HW.out.mono ?_;rintro e w1 ⟨rfl,hb1⟩;have HB:=Lib.hid hb1;clear hb1 HW
   rcases hwe with rfl|rfl
   ·by_cases h1:n=1
    ·subst h1
     go_wp2_with fail
     go_ret2
     exact ⟨by rw [HR.out];rfl,HB.out⟩
    ·have h1b:(n==1)=false:=beq_eq_false_iff_ne.2 h1
     have HR2:=Lib.hid (show untilR s.data.toList f=(1048576,0) by rw [HR.out];simp only [if_true];rw [if_neg h1]);clear h1;go_wp2_with fail
     go_ret2
     exact ⟨by rw [HR2.out];rfl,HB.out⟩
   ·go_wp2_with fail
    go_ret2
    exact ⟨by rw [HR.out];rfl,HB.out⟩
theorem rset_any (s:ByteArray) (w:World) (hs:s.size≤1048576) :
 Calls Tryz.prog 143 #[.string s] w fun e w'=>e=.returned (.tuple #[.string ⟨(setR s.data.toList).1.toArray⟩,.int .i64 (setR s.data.toList).2])∧Below w.heap.size w w':=by
 have HS:=Lib.hid (set_any s w hs)
 cases hb:setB s.data.toList
 ·have HR:=Lib.hid (show setR s.data.toList=([],9) by rw [setR,hb];rfl)
  rw [hb] at HS;clear hb
  go_enter Tryz.func143,Tryz.ntmps143;go_wp2_with fail
  refine HS.out.mono ?_;rintro e w1 ⟨rfl,hb1⟩;go_wp2_with fail
  go_ret2
  exact ⟨by rw [HR.out];rfl,hb1⟩
 ·have HR:=Lib.hid (show setR s.data.toList=(s.data.toList,0) by rw [setR,hb];rfl)
  rw [hb] at HS;clear hb
  go_enter Tryz.func143,Tryz.ntmps143;go_wp2_with fail
  refine HS.out.mono ?_;rintro e w1 ⟨rfl,hb1⟩;go_wp2_with fail
  go_ret2
  exact ⟨by rw [HR.out];rfl,hb1⟩
theorem rletter_any (s:ByteArray) (w:World) (hs:s.size≤1048576) :
 Calls Tryz.prog 154 #[.string s] w fun e w'=>e=.returned (.tuple #[.string ⟨(letterR s.data.toList).1.toArray⟩,.int .i64 (letterR s.data.toList).2])∧Below w.heap.size w w':=by
 by_cases h45:s.data.toList=[45]
 ·obtain rfl:=str_of h45
  have HR:=Lib.hid (show letterR (⟨#[45]⟩:ByteArray).data.toList=([],0) from rfl);clear h45
  go_enter Tryz.func154,Tryz.ntmps154;go_wp2_with fail
  go_ret2
  exact ⟨by rw [HR.out];rfl,Below.refl _ _⟩
 ·have hne:=str_ne h45
  have HS:=Lib.hid (letter_any s w hs)
  cases hb:ofB 1 4 1 s.data.toList
  ·have HR:=Lib.hid (show letterR s.data.toList=([],5) by rw [letterR,if_neg h45,hb];rfl)
   rw [hb] at HS;clear hb h45
   go_enter Tryz.func154,Tryz.ntmps154;go_wp2_with fail
   refine HS.out.mono ?_;rintro e w1 ⟨rfl,hb1⟩;go_wp2_with fail
   go_ret2
   exact ⟨by rw [HR.out];rfl,hb1⟩
  ·have HR:=Lib.hid (show letterR s.data.toList=(s.data.toList,0) by rw [letterR,if_neg h45,hb];rfl)
   rw [hb] at HS;clear hb h45
   go_enter Tryz.func154,Tryz.ntmps154;go_wp2_with fail
   refine HS.out.mono ?_;rintro e w1 ⟨rfl,hb1⟩;go_wp2_with fail
   go_ret2
   exact ⟨by rw [HR.out];rfl,hb1⟩
structure RuleP where
 name:List UInt8
 frm:Int
 til:Int
 mon:Int
 day:Int × Int × Int
 hour:Int × Int
 save:Int
 lett:List UInt8
deriving DecidableEq
def RuleP.none:RuleP:=⟨[],0,0,0,(0,0,0),(0,0),0,[]⟩
def RuleP.cells (r:RuleP):Array Value:=#[.string ⟨r.name.toArray⟩,.int .i64 r.frm,.int .i64 r.til,.int .i64 r.mon,.int .i64 r.day.1,.int .i64 r.day.2.1,.int .i64 r.day.2.2,.int .i64 r.hour.1,.int .i64 r.hour.2,.int .i64 r.save,.string ⟨r.lett.toArray⟩]
theorem field1_any (s:ByteArray) (g:Nat) (r:RuleP) (w:World) (hs:s.size≤1048576) (hT:RTabs w) (hB:Blk w g 84 r.cells) :
 Calls Tryz.prog 142 #[.pointer (some ⟨g,0,none⟩),.string s] w fun e w'=>e=.returned (.int .i64 (setR s.data.toList).2)∧Blk w' g 84 ({ r with name:=(setR s.data.toList).1 } : RuleP).cells∧But g w w':=by
 have HC:=Lib.hid (rset_any s w hs);generalize setR s.data.toList=y at *;obtain ⟨y1,y2⟩:=y;have hlt:=hB.lt;clear hT
 go_enter Tryz.func142,Tryz.ntmps142;go_wp2_with fail
 refine HC.out.mono ?_;rintro e w1 ⟨rfl,hb1⟩;have b1:=hB.below hb1 hlt;have c0:=b1.cell_ (i:=0) rfl;have f0:=b1.frozen 0;have HB:=Lib.hid (And.intro b1 hb1);clear b1 hb1 hB HC;go_wp2_with fail
 go_ret
 refine ⟨rfl,?_,?_⟩
 ·exact HB.out.1.set_ 0 _
 ·exact (But.of HB.out.2).set _ _
theorem field2_any (s:ByteArray) (g:Nat) (r:RuleP) (w:World) (hs:s.size≤1048576) (hT:RTabs w) (hB:Blk w g 84 r.cells) :
 Calls Tryz.prog 144 #[.pointer (some ⟨g,0,none⟩),.string s] w fun e w'=>e=.returned (.int .i64 (yearR s.data.toList).2)∧Blk w' g 84 ({ r with frm:=(yearR s.data.toList).1 } : RuleP).cells∧But g w w':=by
 have HC:=Lib.hid (year_any s w hs hT.pows hT.esyn hT.eran);generalize yearR s.data.toList=y at *;obtain ⟨y1,y2⟩:=y;have hlt:=hB.lt;clear hT
 go_enter Tryz.func144,Tryz.ntmps144;go_wp2_with fail
 refine HC.out.mono ?_;rintro e w1 ⟨rfl,hb1⟩;have b1:=hB.below hb1 hlt;have c1:=b1.cell_ (i:=1) rfl;have f1:=b1.frozen 1;have HB:=Lib.hid (And.intro b1 hb1);clear b1 hb1 hB HC;go_wp2_with fail
 go_ret
 refine ⟨rfl,?_,?_⟩
 ·exact HB.out.1.set_ 1 _
 ·exact (But.of HB.out.2).set _ _
theorem field3_any (s:ByteArray) (g:Nat) (r:RuleP) (w:World) (hs:s.size≤1048576) (hT:RTabs w) (hB:Blk w g 84 r.cells) :
 Calls Tryz.prog 146 #[.pointer (some ⟨g,0,none⟩),.string s] w fun e w'=>e=.returned (.int .i64 (untilR s.data.toList r.frm).2)∧Blk w' g 84 ({ r with til:=(untilR s.data.toList r.frm).1 } : RuleP).cells∧But g w w':=by
 have HC:=Lib.hid (until_any s r.frm w hs hT);have cf:=hB.cell_ (i:=1) rfl;generalize untilR s.data.toList r.frm=y at *;obtain ⟨y1,y2⟩:=y;have hlt:=hB.lt;clear hT
 go_enter Tryz.func146,Tryz.ntmps146;go_wp2_with fail
 refine HC.out.mono ?_;rintro e w1 ⟨rfl,hb1⟩;have b1:=hB.below hb1 hlt;have c2:=b1.cell_ (i:=2) rfl;have f2:=b1.frozen 2;have HB:=Lib.hid (And.intro b1 hb1);clear b1 hb1 hB HC;go_wp2_with fail
 go_ret
 refine ⟨rfl,?_,?_⟩
 ·exact HB.out.1.set_ 2 _
 ·exact (But.of HB.out.2).set _ _
theorem field4_any (s:ByteArray) (g:Nat) (r:RuleP) (w:World) (hs:s.size≤1048576) (hT:RTabs w) (hB:Blk w g 84 r.cells) :
 Calls Tryz.prog 149 #[.pointer (some ⟨g,0,none⟩),.string s] w fun e w'=>e=.returned (.int .i64 (wordR monthL 1 s.data.toList).2)∧Blk w' g 84 ({ r with mon:=(wordR monthL 1 s.data.toList).1 } : RuleP).cells∧But g w w':=by
 have HC:=Lib.hid (month_any s w hT.months hs);generalize wordR monthL 1 s.data.toList=y at *;obtain ⟨y1,y2⟩:=y;have hlt:=hB.lt;clear hT
 go_enter Tryz.func149,Tryz.ntmps149;go_wp2_with fail
 refine HC.out.mono ?_;rintro e w1 ⟨rfl,hb1⟩;have b1:=hB.below hb1 hlt;have c3:=b1.cell_ (i:=3) rfl;have f3:=b1.frozen 3;have HB:=Lib.hid (And.intro b1 hb1);clear b1 hb1 hB HC;go_wp2_with fail
 go_ret
 refine ⟨rfl,?_,?_⟩
 ·exact HB.out.1.set_ 3 _
 ·exact (But.of HB.out.2).set _ _
theorem field5_any (s:ByteArray) (g:Nat) (r:RuleP) (w:World) (hs:s.size≤1048576) (hT:RTabs w) (hB:Blk w g 84 r.cells) :
 Calls Tryz.prog 150 #[.pointer (some ⟨g,0,none⟩),.string s] w fun e w'=>e=.returned (.int .i64 (parseR s.data.toList).2)∧Blk w' g 84 ({ r with day:=(parseR s.data.toList).1 } : RuleP).cells∧But g w w':=by
 have HC:=Lib.hid (parse_any s hs w hT.weeks hT.folds);generalize parseR s.data.toList=y at *;obtain ⟨y1,y2⟩:=y;obtain ⟨ya,yb,yc⟩:=y1;unfold dayV at HC;have hlt:=hB.lt;clear hT
 go_enter Tryz.func150,Tryz.ntmps150;go_wp2_with fail
 refine HC.out.mono ?_;rintro e w1 ⟨rfl,hb1⟩;have b1:=hB.below hb1 hlt;have c4:=b1.cell_ (i:=4) rfl;have f4:=b1.frozen 4;have c5:=b1.cell_ (i:=5) rfl;have f5:=b1.frozen 5;have c6:=b1.cell_ (i:=6) rfl;have f6:=b1.frozen 6;have HB:=Lib.hid (And.intro b1 hb1);clear b1 hb1 hB HC;go_wp2_with fail
 go_ret
 refine ⟨rfl,?_,?_⟩
 ·exact ((HB.out.1.set_ 4 _).set_ 5 _).set_ 6 _
 ·exact (((But.of HB.out.2).set _ _).set _ _).set _ _
theorem field6_any (s:ByteArray) (g:Nat) (r:RuleP) (w:World) (hs:s.size≤1048576) (hT:RTabs w) (hB:Blk w g 84 r.cells) :
 Calls Tryz.prog 151 #[.pointer (some ⟨g,0,none⟩),.string s] w fun e w'=>e=.returned (.int .i64 (clockR s.data.toList).2)∧Blk w' g 84 ({ r with hour:=(clockR s.data.toList).1 } : RuleP).cells∧But g w w':=by
 have HC:=Lib.hid (clockParse_any s w hs hT.units hT.esyn);generalize clockR s.data.toList=y at *;obtain ⟨y1,y2⟩:=y;obtain ⟨ya,yb⟩:=y1;have hlt:=hB.lt;clear hT
 go_enter Tryz.func151,Tryz.ntmps151;go_wp2_with fail
 refine HC.out.mono ?_;rintro e w1 ⟨rfl,hb1⟩;have b1:=hB.below hb1 hlt;have c7:=b1.cell_ (i:=7) rfl;have f7:=b1.frozen 7;have c8:=b1.cell_ (i:=8) rfl;have f8:=b1.frozen 8;have HB:=Lib.hid (And.intro b1 hb1);clear b1 hb1 hB HC;go_wp2_with fail
 go_ret
 refine ⟨rfl,?_,?_⟩
 ·exact (HB.out.1.set_ 7 _).set_ 8 _
 ·exact ((But.of HB.out.2).set _ _).set _ _
theorem field7_any (s:ByteArray) (g:Nat) (r:RuleP) (w:World) (hs:s.size≤1048576) (hT:RTabs w) (hB:Blk w g 84 r.cells) :
 Calls Tryz.prog 152 #[.pointer (some ⟨g,0,none⟩),.string s] w fun e w'=>e=.returned (.int .i64 (offParseR s.data.toList).2)∧Blk w' g 84 ({ r with save:=(offParseR s.data.toList).1 } : RuleP).cells∧But g w w':=by
 have HC:=Lib.hid (offParse_any s w hs hT.units hT.esyn);generalize offParseR s.data.toList=y at *;obtain ⟨y1,y2⟩:=y;have hlt:=hB.lt;clear hT
 go_enter Tryz.func152,Tryz.ntmps152;go_wp2_with fail
 refine HC.out.mono ?_;rintro e w1 ⟨rfl,hb1⟩;have b1:=hB.below hb1 hlt;have c9:=b1.cell_ (i:=9) rfl;have f9:=b1.frozen 9;have HB:=Lib.hid (And.intro b1 hb1);clear b1 hb1 hB HC;go_wp2_with fail
 go_ret
 refine ⟨rfl,?_,?_⟩
 ·exact HB.out.1.set_ 9 _
 ·exact (But.of HB.out.2).set _ _
theorem field8_any (s:ByteArray) (g:Nat) (r:RuleP) (w:World) (hs:s.size≤1048576) (hT:RTabs w) (hB:Blk w g 84 r.cells) :
 Calls Tryz.prog 153 #[.pointer (some ⟨g,0,none⟩),.string s] w fun e w'=>e=.returned (.int .i64 (letterR s.data.toList).2)∧Blk w' g 84 ({ r with lett:=(letterR s.data.toList).1 } : RuleP).cells∧But g w w':=by
 have HC:=Lib.hid (rletter_any s w hs);generalize letterR s.data.toList=y at *;obtain ⟨y1,y2⟩:=y;have hlt:=hB.lt;clear hT
 go_enter Tryz.func153,Tryz.ntmps153;go_wp2_with fail
 refine HC.out.mono ?_;rintro e w1 ⟨rfl,hb1⟩;have b1:=hB.below hb1 hlt;have c10:=b1.cell_ (i:=10) rfl;have f10:=b1.frozen 10;have HB:=Lib.hid (And.intro b1 hb1);clear b1 hb1 hB HC;go_wp2_with fail
 go_ret
 refine ⟨rfl,?_,?_⟩
 ·exact HB.out.1.set_ 10 _
 ·exact (But.of HB.out.2).set _ _
theorem skip_any (g:Nat) (s:ByteArray) (w:World) :
 Calls Tryz.prog 148 #[.pointer (some ⟨g,0,none⟩),.string s] w fun e w'=>e=.returned (.int .i64 0)∧w=w':=by
 go_enter Tryz.func148,Tryz.ntmps148
 go_wp2
 go_ret
 exact ⟨rfl,rfl⟩
def fieldsA:Array Value:=#[.func (.func 142) #[] #[],.func (.func 144) #[] #[],.func (.func 146) #[] #[],.func (.func 148) #[] #[],.func (.func 149) #[] #[],.func (.func 150) #[] #[],.func (.func 151) #[] #[],.func (.func 152) #[] #[],.func (.func 153) #[] #[]]
theorem fields_any (w:World):Calls Tryz.prog 104 #[] w fun e w'=>e=.returned (.slice (some ⟨w.heap.size,0,none⟩) 9 9)∧w.alloc (.cells fieldsA 185)=w':=by
 go_enter Tryz.func104,Tryz.ntmps104
 go_wp2
 go_ret
 exact ⟨rfl,rfl⟩
def firstE:List Int→Int
 | []=>0
 | e::r=>if e=0 then firstE r else e
theorem firstE_at:∀(es:List Int) (k:Nat) (e:Int),(∀j,j<k→es[j]? = some 0)→es[k]? = some e→e≠0→firstE es=e
 | [],k,e,_,h,_=>by simp at h
 | a::es,0,e,_,h,he=>by
  have h:a=e:=by simpa using h
  subst h;exact if_neg he
 | a::es,k+1,e,h0,h,he=>by
  have ha:a=0:=by have:=h0 0 (by omega);simpa using this
  rw [firstE,if_pos ha];exact firstE_at es k e (fun j hj=>by have:=h0 (j+1) (by omega);simpa using this) (by simpa using h) he
theorem firstE_all:∀(es:List Int) (n:Nat),(∀j,j<n→es[j]? = some 0)→es.length=n→firstE es=0
 | [],_,_,_=>rfl
 | a::es,n,h,hl=>by
  have ha:a=0:=by have:=h 0 (by simp at hl;omega);simpa using this
  rw [firstE,if_pos ha];exact firstE_all es (n-1) (fun j hj=>by have:=h (j+1) (by omega);simpa using this) (by simp at hl;omega)
def errsR (a0 a1 a2 a4 a5 a6 a7 a8:List UInt8):List Int:=[(setR a0).2,(yearR a1).2,(untilR a2 (yearR a1).1).2,0,(wordR monthL 1 a4).2,(parseR a5).2,(clockR a6).2,(offParseR a7).2,(letterR a8).2]
def uptoR (k:Nat) (a0 a1 a2 a4 a5 a6 a7 a8:List UInt8):RuleP :=
 ⟨if 0<k then (setR a0).1 else [],if 1<k then (yearR a1).1 else 0,if 2<k then (untilR a2 (yearR a1).1).1 else 0,if 4<k then (wordR monthL 1 a4).1 else 0,if 5<k then (parseR a5).1 else (0,0,0),if 6<k then (clockR a6).1 else (0,0),if 7<k then (offParseR a7).1 else 0,if 8<k then (letterR a8).1 else []⟩
def ruleR (l:List (List UInt8)):RuleP × Int:=match l with
 | [a0,a1,a2,a3,a4,a5,a6,a7,a8]=>if a3=[45] then (if firstE (errsR a0 a1 a2 a4 a5 a6 a7 a8)=0 then (uptoR 9 a0 a1 a2 a4 a5 a6 a7 a8,0) else (RuleP.none,firstE (errsR a0 a1 a2 a4 a5 a6 a7 a8))) else (RuleP.none,5)
 | _=>(RuleP.none,5)
def ruleV (r:RuleP):Value:=.agg r.cells
theorem infoRule:(Tryz.prog.info? 84).map (·.size)=some 11:=by kernel_rfl
theorem RuleP.size (r:RuleP):r.cells.size=11:=rfl
theorem RuleP.one (r:RuleP):r.cells.all (·.oneCell')=true:=by simp [RuleP.cells,Value.oneCell']
theorem infoR (r:RuleP):(Tryz.prog.info? 84).map (·.size)=some r.cells.size:=infoRule
theorem ruleParse_n (A:Option Addr) (n c:Nat) (w:World) (hn:n≠9) :
 Calls Tryz.prog 76 #[.slice A n c] w fun e w'=>e=.returned (.tuple #[ruleV RuleP.none,.int .i64 5])∧Below w.heap.size w w':=by
 have hn9:((n:Int) != 9)=true:=by rw [bne_iff_ne];omega
 clear hn
 go_enter Tryz.func76,Tryz.ntmps76;go_wp2_with fail
 refine bodyPost_ret (by simp [results,Tryz.results76,go_sem];rfl) rfl ⟨rfl,by go_grown⟩
theorem ruleParse_9 (bl ol c:Nat) (s0 s1 s2 s3 s4 s5 s6 s7 s8:ByteArray) (w:World) (hT:RTabs w) (hbl:bl<w.heap.size)
 (h0:s0.size≤1048576) (h1:s1.size≤1048576) (h2:s2.size≤1048576) (h4:s4.size≤1048576) (h5:s5.size≤1048576) (h6:s6.size≤1048576) (h7:s7.size≤1048576) (h8:s8.size≤1048576)
 (hc:∀j s,[s0,s1,s2,s3,s4,s5,s6,s7,s8][j]? = some s→w.cell? ⟨bl,ol+j,none⟩=some (.string s)) (h3:s3.data.toList=[45]) :
 Calls Tryz.prog 76 #[.slice (some ⟨bl,ol,none⟩) 9 c] w fun e w'=>e=.returned (.tuple #[ruleV (ruleR ([s0,s1,s2,s3,s4,s5,s6,s7,s8].map fun s=>s.data.toList)).1,.int .i64 (ruleR ([s0,s1,s2,s3,s4,s5,s6,s7,s8].map fun s=>s.data.toList)).2])∧Below w.heap.size w w':=by
 obtain ⟨R,hR⟩:∃R,ruleR ([s0,s1,s2,s3,s4,s5,s6,s7,s8].map fun s=>s.data.toList)=R:=⟨_,rfl⟩;rw [hR];have HR:=Lib.hid (show R=if firstE (errsR s0.data.toList s1.data.toList s2.data.toList s4.data.toList s5.data.toList s6.data.toList s7.data.toList s8.data.toList)=0 then (uptoR 9 s0.data.toList s1.data.toList s2.data.toList s4.data.toList s5.data.toList s6.data.toList s7.data.toList s8.data.toList,0) else (RuleP.none,firstE (errsR s0.data.toList s1.data.toList s2.data.toList s4.data.toList s5.data.toList s6.data.toList s7.data.toList s8.data.toList)) from hR.symm.trans (if_pos h3));obtain rfl:=str_of h3;have HC:=Lib.hid hc;have l3:w.cell? ⟨bl,ol+3,none⟩=some (.string ⟨#[45]⟩):=hc 3 _ rfl;clear hR h3 hc
 go_enter Tryz.func76,Tryz.ntmps76;go_wp2_with fail
 refine (fields_any _).mono ?_;rintro e w1 ⟨rfl,hw1⟩;have bz:Blk w1 w.heap.size 84 RuleP.none.cells:=hw1 ▸ ((Blk.new' _ _ _ rfl).alloc _).alloc _;have br:Blk w1 (w.heap.size+1) 84 (uptoR 0 s0.data.toList s1.data.toList s2.data.toList s4.data.toList s5.data.toList s6.data.toList s7.data.toList s8.data.toList).cells:=hw1 ▸ (Blk.new' _ _ _ (by simp)).alloc _;have bf:Blk w1 (w.heap.size+1+1) 185 fieldsA:=hw1 ▸ Blk.new' _ _ _ (by simp);have HW:=Lib.hid (And.intro bz (And.intro br (And.intro bf (show Below w.heap.size w w1 from hw1 ▸ (((Below.refl _ _).alloc (Nat.le_refl _) _).alloc (by simp) _).alloc (by simp;omega) _))));clear bz br bf hw1;go_wp2_with fail
 go_loopw [20] (fun i wr=>∃k:Nat,k≤9∧i=.int .i64 (k:Int)∧Blk wr w.heap.size 84 RuleP.none.cells∧Blk wr (w.heap.size+1) 84 (uptoR k s0.data.toList s1.data.toList s2.data.toList s4.data.toList s5.data.toList s6.data.toList s7.data.toList s8.data.toList).cells∧Blk wr (w.heap.size+1+1) 185 fieldsA∧Below w.heap.size w wr∧Aside (∀j,j<k→(errsR s0.data.toList s1.data.toList s2.data.toList s4.data.toList s5.data.toList s6.data.toList s7.data.toList s8.data.toList)[j]? = some 0)) (fun i _=>9-(intOf i).toNat)
 case atStart=>exact ⟨0,by omega,rfl,HW.out.1,HW.out.2.1,HW.out.2.2.1,HW.out.2.2.2,fun j hj=>absurd hj (by omega)⟩
 case round =>
  obtain ⟨k,hk,rfl,bz,br,bf,hb,hes⟩:=hrel;have HE:=Lib.hid hes.out;have HZ:=Lib.hid (And.intro bz (And.intro bf hb));have hlt:=bf.lt;clear hes HW l3
  by_cases hk9:k=9
  ·subst hk9
   have HF:=Lib.hid (show R=(uptoR 9 s0.data.toList s1.data.toList s2.data.toList s4.data.toList s5.data.toList s6.data.toList s7.data.toList s8.data.toList,0) by rw [HR.out,if_pos (firstE_all _ 9 HE.out rfl)]);obtain ⟨C,hC⟩:∃C,(uptoR 9 s0.data.toList s1.data.toList s2.data.toList s4.data.toList s5.data.toList s6.data.toList s7.data.toList s8.data.toList).cells=C:=⟨_,rfl⟩;rw [hC] at br;have hCi:(Tryz.prog.info? 84).map (·.size)=some C.size:=hC ▸ infoR _;have hC1:C.all (·.oneCell')=true:=hC ▸ RuleP.one _;have hCs:C.size=11:=hC ▸ rfl;have HBR:=Lib.hid br;have HCC:=Lib.hid (And.intro hCi (And.intro hC1 hCs));have HC9:=Lib.hid hC;have Hth:=Lib.hid (show wr.there w.heap.size 0 C.size from HZ.out.1.there (by rw [hCs];exact Nat.le_refl _));clear bz br bf hb HR HE HC hCi hC1 hCs hC
   go_wp2_with (first
    | (refine wpList_load_row rfl 84 (.tmp 4) rfl (w.heap.size+1) rfl 84 C (0,0) _ HBR.out Tryz.underlying84 rfl HCC.out.1 ?_)
    | (refine wpList_store_mid rfl 84 (.tmp 2) (.tmp 36) rfl w.heap.size 0 C rfl rfl Hth.out HCC.out.1 HCC.out.2.1 ?_))
   refine bodyPost_ret (results_cell_tmp rfl _ _ w.heap.size 84 C _ _ rfl rfl (HZ.out.1.setAll C HCC.out.2.2) Tryz.underlying84 rfl HCC.out.1) rfl ⟨?_,below_sets (Nat.le_refl _) _ _ _ HZ.out.2.2⟩;rw [HF.out,ruleV,HC9.out]
   rfl
  have hT1:RTabs wr:=hT.below hb;have HT1:=Lib.hid hT1;have HBR:=Lib.hid br;clear br hT1 bz
  rcases (by omega:k=0∨k=1∨k=2∨k=3∨k=4∨k=5∨k=6∨k=7∨k=8) with rfl|rfl|rfl|rfl|rfl|rfl|rfl|rfl|rfl
  ·have cl:wr.cell? ⟨bl,ol,none⟩=some (.string s0):=(hb.cell (p:=⟨bl,ol+0,none⟩) hbl).trans (HC.out 0 _ rfl)
   have cf:wr.cell? ⟨w.heap.size+1+1,0,none⟩=some (.func (.func 142) #[] #[]):=bf.cell_ rfl;clear bf hb;have HF:=Lib.hid (show Calls Tryz.prog 142 #[.pointer (some ⟨w.heap.size+1,0,none⟩),.string s0] wr fun e w'=>e=.returned (.int .i64 (setR s0.data.toList).2)∧Blk w' (w.heap.size+1) 84 (uptoR 1 s0.data.toList s1.data.toList s2.data.toList s4.data.toList s5.data.toList s6.data.toList s7.data.toList s8.data.toList).cells∧But (w.heap.size+1) wr w' from field1_any s0 (w.heap.size+1) _ wr h0 HT1.out HBR.out);have HEk:=Lib.hid (show (errsR s0.data.toList s1.data.toList s2.data.toList s4.data.toList s5.data.toList s6.data.toList s7.data.toList s8.data.toList)[0]? = some (setR s0.data.toList).2 from rfl);generalize (setR s0.data.toList).2=er at *;go_wp2_with fail
   refine HF.out.mono ?_;rintro e w2 ⟨rfl,br2,hbut⟩;have HZ2:=Lib.hid (And.intro (HZ.out.1.but hbut (by omega)) (And.intro br2 (And.intro (HZ.out.2.1.but hbut (by omega)) (hbut.below HZ.out.2.2 (by omega) (Nat.le_refl _)))));clear br2 hbut HZ HBR HF
   by_cases her:er=0
   ·subst her
    go_wp2_with fail
    go_roundw
    case rel =>
     refine ⟨1,by omega,rfl,HZ2.out.1,HZ2.out.2.1,HZ2.out.2.2.1,HZ2.out.2.2.2,fun j hj=>?_⟩
     rcases Nat.lt_or_ge j 0 with h|h
     ·exact HE.out j h
     ·obtain rfl:j=0:=by omega
      exact HEk.out
    case measure=>simp [intOf]
   ·have herb:(er != 0)=true:=by rw [bne_iff_ne];exact her
    have HFin:=Lib.hid (show R=(RuleP.none,er) by rw [HR.out,firstE_at _ 0 er HE.out HEk.out her,if_neg her]);clear her HR HE HEk;have z0:=HZ2.out.1.cell_ (i:=0) rfl;have y0:=HZ2.out.1.frozen 0;have z1:=HZ2.out.1.cell_ (i:=1) rfl;have y1:=HZ2.out.1.frozen 1;have z2:=HZ2.out.1.cell_ (i:=2) rfl;have y2:=HZ2.out.1.frozen 2;have z3:=HZ2.out.1.cell_ (i:=3) rfl;have y3:=HZ2.out.1.frozen 3;have z4:=HZ2.out.1.cell_ (i:=4) rfl;have y4:=HZ2.out.1.frozen 4;have z5:=HZ2.out.1.cell_ (i:=5) rfl;have y5:=HZ2.out.1.frozen 5;have z6:=HZ2.out.1.cell_ (i:=6) rfl;have y6:=HZ2.out.1.frozen 6;have z7:=HZ2.out.1.cell_ (i:=7) rfl;have y7:=HZ2.out.1.frozen 7;have z8:=HZ2.out.1.cell_ (i:=8) rfl;have y8:=HZ2.out.1.frozen 8;have z9:=HZ2.out.1.cell_ (i:=9) rfl;have y9:=HZ2.out.1.frozen 9;have z10:=HZ2.out.1.cell_ (i:=10) rfl;have y10:=HZ2.out.1.frozen 10;go_wp2_with fail
    refine bodyPost_ret (by simp [results,Tryz.results76,go_sem,z0,z1,z2,z3,z4,z5,z6,z7,z8,z9,z10];rfl) rfl ⟨?_,?_⟩
    ·rw [HFin.out];rfl
    ·have hBv:=HZ2.out.2.2.2;go_grown
  ·have cl:wr.cell? ⟨bl,ol+1,none⟩=some (.string s1):=(hb.cell (p:=⟨bl,ol+1,none⟩) hbl).trans (HC.out 1 _ rfl)
   have cf:wr.cell? ⟨w.heap.size+1+1,1,none⟩=some (.func (.func 144) #[] #[]):=bf.cell_ rfl;clear bf hb;have HF:=Lib.hid (show Calls Tryz.prog 144 #[.pointer (some ⟨w.heap.size+1,0,none⟩),.string s1] wr fun e w'=>e=.returned (.int .i64 (yearR s1.data.toList).2)∧Blk w' (w.heap.size+1) 84 (uptoR 2 s0.data.toList s1.data.toList s2.data.toList s4.data.toList s5.data.toList s6.data.toList s7.data.toList s8.data.toList).cells∧But (w.heap.size+1) wr w' from field2_any s1 (w.heap.size+1) _ wr h1 HT1.out HBR.out);have HEk:=Lib.hid (show (errsR s0.data.toList s1.data.toList s2.data.toList s4.data.toList s5.data.toList s6.data.toList s7.data.toList s8.data.toList)[1]? = some (yearR s1.data.toList).2 from rfl);generalize (yearR s1.data.toList).2=er at *;go_wp2_with fail
   refine HF.out.mono ?_;rintro e w2 ⟨rfl,br2,hbut⟩;have HZ2:=Lib.hid (And.intro (HZ.out.1.but hbut (by omega)) (And.intro br2 (And.intro (HZ.out.2.1.but hbut (by omega)) (hbut.below HZ.out.2.2 (by omega) (Nat.le_refl _)))));clear br2 hbut HZ HBR HF
   by_cases her:er=0
   ·subst her
    go_wp2_with fail
    go_roundw
    case rel =>
     refine ⟨2,by omega,rfl,HZ2.out.1,HZ2.out.2.1,HZ2.out.2.2.1,HZ2.out.2.2.2,fun j hj=>?_⟩
     rcases Nat.lt_or_ge j 1 with h|h
     ·exact HE.out j h
     ·obtain rfl:j=1:=by omega
      exact HEk.out
    case measure=>simp [intOf]
   ·have herb:(er != 0)=true:=by rw [bne_iff_ne];exact her
    have HFin:=Lib.hid (show R=(RuleP.none,er) by rw [HR.out,firstE_at _ 1 er HE.out HEk.out her,if_neg her]);clear her HR HE HEk;have z0:=HZ2.out.1.cell_ (i:=0) rfl;have y0:=HZ2.out.1.frozen 0;have z1:=HZ2.out.1.cell_ (i:=1) rfl;have y1:=HZ2.out.1.frozen 1;have z2:=HZ2.out.1.cell_ (i:=2) rfl;have y2:=HZ2.out.1.frozen 2;have z3:=HZ2.out.1.cell_ (i:=3) rfl;have y3:=HZ2.out.1.frozen 3;have z4:=HZ2.out.1.cell_ (i:=4) rfl;have y4:=HZ2.out.1.frozen 4;have z5:=HZ2.out.1.cell_ (i:=5) rfl;have y5:=HZ2.out.1.frozen 5;have z6:=HZ2.out.1.cell_ (i:=6) rfl;have y6:=HZ2.out.1.frozen 6;have z7:=HZ2.out.1.cell_ (i:=7) rfl;have y7:=HZ2.out.1.frozen 7;have z8:=HZ2.out.1.cell_ (i:=8) rfl;have y8:=HZ2.out.1.frozen 8;have z9:=HZ2.out.1.cell_ (i:=9) rfl;have y9:=HZ2.out.1.frozen 9;have z10:=HZ2.out.1.cell_ (i:=10) rfl;have y10:=HZ2.out.1.frozen 10;go_wp2_with fail
    refine bodyPost_ret (by simp [results,Tryz.results76,go_sem,z0,z1,z2,z3,z4,z5,z6,z7,z8,z9,z10];rfl) rfl ⟨?_,?_⟩
    ·rw [HFin.out];rfl
    ·have hBv:=HZ2.out.2.2.2;go_grown
  ·have cl:wr.cell? ⟨bl,ol+2,none⟩=some (.string s2):=(hb.cell (p:=⟨bl,ol+2,none⟩) hbl).trans (HC.out 2 _ rfl)
   have cf:wr.cell? ⟨w.heap.size+1+1,2,none⟩=some (.func (.func 146) #[] #[]):=bf.cell_ rfl;clear bf hb;have HF:=Lib.hid (show Calls Tryz.prog 146 #[.pointer (some ⟨w.heap.size+1,0,none⟩),.string s2] wr fun e w'=>e=.returned (.int .i64 (untilR s2.data.toList (yearR s1.data.toList).1).2)∧Blk w' (w.heap.size+1) 84 (uptoR 3 s0.data.toList s1.data.toList s2.data.toList s4.data.toList s5.data.toList s6.data.toList s7.data.toList s8.data.toList).cells∧But (w.heap.size+1) wr w' from field3_any s2 (w.heap.size+1) _ wr h2 HT1.out HBR.out);have HEk:=Lib.hid (show (errsR s0.data.toList s1.data.toList s2.data.toList s4.data.toList s5.data.toList s6.data.toList s7.data.toList s8.data.toList)[2]? = some (untilR s2.data.toList (yearR s1.data.toList).1).2 from rfl);generalize (untilR s2.data.toList (yearR s1.data.toList).1).2=er at *;go_wp2_with fail
   refine HF.out.mono ?_;rintro e w2 ⟨rfl,br2,hbut⟩;have HZ2:=Lib.hid (And.intro (HZ.out.1.but hbut (by omega)) (And.intro br2 (And.intro (HZ.out.2.1.but hbut (by omega)) (hbut.below HZ.out.2.2 (by omega) (Nat.le_refl _)))));clear br2 hbut HZ HBR HF
   by_cases her:er=0
   ·subst her
    go_wp2_with fail
    go_roundw
    case rel =>
     refine ⟨3,by omega,rfl,HZ2.out.1,HZ2.out.2.1,HZ2.out.2.2.1,HZ2.out.2.2.2,fun j hj=>?_⟩
     rcases Nat.lt_or_ge j 2 with h|h
     ·exact HE.out j h
     ·obtain rfl:j=2:=by omega
      exact HEk.out
    case measure=>simp [intOf]
   ·have herb:(er != 0)=true:=by rw [bne_iff_ne];exact her
    have HFin:=Lib.hid (show R=(RuleP.none,er) by rw [HR.out,firstE_at _ 2 er HE.out HEk.out her,if_neg her]);clear her HR HE HEk;have z0:=HZ2.out.1.cell_ (i:=0) rfl;have y0:=HZ2.out.1.frozen 0;have z1:=HZ2.out.1.cell_ (i:=1) rfl;have y1:=HZ2.out.1.frozen 1;have z2:=HZ2.out.1.cell_ (i:=2) rfl;have y2:=HZ2.out.1.frozen 2;have z3:=HZ2.out.1.cell_ (i:=3) rfl;have y3:=HZ2.out.1.frozen 3;have z4:=HZ2.out.1.cell_ (i:=4) rfl;have y4:=HZ2.out.1.frozen 4;have z5:=HZ2.out.1.cell_ (i:=5) rfl;have y5:=HZ2.out.1.frozen 5;have z6:=HZ2.out.1.cell_ (i:=6) rfl;have y6:=HZ2.out.1.frozen 6;have z7:=HZ2.out.1.cell_ (i:=7) rfl;have y7:=HZ2.out.1.frozen 7;have z8:=HZ2.out.1.cell_ (i:=8) rfl;have y8:=HZ2.out.1.frozen 8;have z9:=HZ2.out.1.cell_ (i:=9) rfl;have y9:=HZ2.out.1.frozen 9;have z10:=HZ2.out.1.cell_ (i:=10) rfl;have y10:=HZ2.out.1.frozen 10;go_wp2_with fail
    refine bodyPost_ret (by simp [results,Tryz.results76,go_sem,z0,z1,z2,z3,z4,z5,z6,z7,z8,z9,z10];rfl) rfl ⟨?_,?_⟩
    ·rw [HFin.out];rfl
    ·have hBv:=HZ2.out.2.2.2;go_grown
  ·have cl:wr.cell? ⟨bl,ol+3,none⟩=some (.string ⟨#[45]⟩):=(hb.cell (p:=⟨bl,ol+3,none⟩) hbl).trans (HC.out 3 _ rfl)
   have cf:wr.cell? ⟨w.heap.size+1+1,3,none⟩=some (.func (.func 148) #[] #[]):=bf.cell_ rfl;clear bf hb;go_wp2_with fail
   refine (skip_any _ _ _).mono ?_;rintro e w2 ⟨rfl,rfl⟩;go_wp2_with fail
   go_roundw
   case rel =>
    refine ⟨4,by omega,rfl,HZ.out.1,HBR.out,HZ.out.2.1,HZ.out.2.2,fun j hj=>?_⟩
    rcases Nat.lt_or_ge j 3 with h|h
    ·exact HE.out j h
    ·obtain rfl:j=3:=by omega
     rfl
   case measure=>simp [intOf]
  ·have cl:wr.cell? ⟨bl,ol+4,none⟩=some (.string s4):=(hb.cell (p:=⟨bl,ol+4,none⟩) hbl).trans (HC.out 4 _ rfl)
   have cf:wr.cell? ⟨w.heap.size+1+1,4,none⟩=some (.func (.func 149) #[] #[]):=bf.cell_ rfl;clear bf hb;have HF:=Lib.hid (show Calls Tryz.prog 149 #[.pointer (some ⟨w.heap.size+1,0,none⟩),.string s4] wr fun e w'=>e=.returned (.int .i64 (wordR monthL 1 s4.data.toList).2)∧Blk w' (w.heap.size+1) 84 (uptoR 5 s0.data.toList s1.data.toList s2.data.toList s4.data.toList s5.data.toList s6.data.toList s7.data.toList s8.data.toList).cells∧But (w.heap.size+1) wr w' from field4_any s4 (w.heap.size+1) _ wr h4 HT1.out HBR.out);have HEk:=Lib.hid (show (errsR s0.data.toList s1.data.toList s2.data.toList s4.data.toList s5.data.toList s6.data.toList s7.data.toList s8.data.toList)[4]? = some (wordR monthL 1 s4.data.toList).2 from rfl);generalize (wordR monthL 1 s4.data.toList).2=er at *;go_wp2_with fail
   refine HF.out.mono ?_;rintro e w2 ⟨rfl,br2,hbut⟩;have HZ2:=Lib.hid (And.intro (HZ.out.1.but hbut (by omega)) (And.intro br2 (And.intro (HZ.out.2.1.but hbut (by omega)) (hbut.below HZ.out.2.2 (by omega) (Nat.le_refl _)))));clear br2 hbut HZ HBR HF
   by_cases her:er=0
   ·subst her
    go_wp2_with fail
    go_roundw
    case rel =>
     refine ⟨5,by omega,rfl,HZ2.out.1,HZ2.out.2.1,HZ2.out.2.2.1,HZ2.out.2.2.2,fun j hj=>?_⟩
     rcases Nat.lt_or_ge j 4 with h|h
     ·exact HE.out j h
     ·obtain rfl:j=4:=by omega
      exact HEk.out
    case measure=>simp [intOf]
   ·have herb:(er != 0)=true:=by rw [bne_iff_ne];exact her
    have HFin:=Lib.hid (show R=(RuleP.none,er) by rw [HR.out,firstE_at _ 4 er HE.out HEk.out her,if_neg her]);clear her HR HE HEk;have z0:=HZ2.out.1.cell_ (i:=0) rfl;have y0:=HZ2.out.1.frozen 0;have z1:=HZ2.out.1.cell_ (i:=1) rfl;have y1:=HZ2.out.1.frozen 1;have z2:=HZ2.out.1.cell_ (i:=2) rfl;have y2:=HZ2.out.1.frozen 2;have z3:=HZ2.out.1.cell_ (i:=3) rfl;have y3:=HZ2.out.1.frozen 3;have z4:=HZ2.out.1.cell_ (i:=4) rfl;have y4:=HZ2.out.1.frozen 4;have z5:=HZ2.out.1.cell_ (i:=5) rfl;have y5:=HZ2.out.1.frozen 5;have z6:=HZ2.out.1.cell_ (i:=6) rfl;have y6:=HZ2.out.1.frozen 6;have z7:=HZ2.out.1.cell_ (i:=7) rfl;have y7:=HZ2.out.1.frozen 7;have z8:=HZ2.out.1.cell_ (i:=8) rfl;have y8:=HZ2.out.1.frozen 8;have z9:=HZ2.out.1.cell_ (i:=9) rfl;have y9:=HZ2.out.1.frozen 9;have z10:=HZ2.out.1.cell_ (i:=10) rfl;have y10:=HZ2.out.1.frozen 10;go_wp2_with fail
    refine bodyPost_ret (by simp [results,Tryz.results76,go_sem,z0,z1,z2,z3,z4,z5,z6,z7,z8,z9,z10];rfl) rfl ⟨?_,?_⟩
    ·rw [HFin.out];rfl
    ·have hBv:=HZ2.out.2.2.2;go_grown
  ·have cl:wr.cell? ⟨bl,ol+5,none⟩=some (.string s5):=(hb.cell (p:=⟨bl,ol+5,none⟩) hbl).trans (HC.out 5 _ rfl)
   have cf:wr.cell? ⟨w.heap.size+1+1,5,none⟩=some (.func (.func 150) #[] #[]):=bf.cell_ rfl;clear bf hb;have HF:=Lib.hid (show Calls Tryz.prog 150 #[.pointer (some ⟨w.heap.size+1,0,none⟩),.string s5] wr fun e w'=>e=.returned (.int .i64 (parseR s5.data.toList).2)∧Blk w' (w.heap.size+1) 84 (uptoR 6 s0.data.toList s1.data.toList s2.data.toList s4.data.toList s5.data.toList s6.data.toList s7.data.toList s8.data.toList).cells∧But (w.heap.size+1) wr w' from field5_any s5 (w.heap.size+1) _ wr h5 HT1.out HBR.out);have HEk:=Lib.hid (show (errsR s0.data.toList s1.data.toList s2.data.toList s4.data.toList s5.data.toList s6.data.toList s7.data.toList s8.data.toList)[5]? = some (parseR s5.data.toList).2 from rfl);generalize (parseR s5.data.toList).2=er at *;go_wp2_with fail
   refine HF.out.mono ?_;rintro e w2 ⟨rfl,br2,hbut⟩;have HZ2:=Lib.hid (And.intro (HZ.out.1.but hbut (by omega)) (And.intro br2 (And.intro (HZ.out.2.1.but hbut (by omega)) (hbut.below HZ.out.2.2 (by omega) (Nat.le_refl _)))));clear br2 hbut HZ HBR HF
   by_cases her:er=0
   ·subst her
    go_wp2_with fail
    go_roundw
    case rel =>
     refine ⟨6,by omega,rfl,HZ2.out.1,HZ2.out.2.1,HZ2.out.2.2.1,HZ2.out.2.2.2,fun j hj=>?_⟩
     rcases Nat.lt_or_ge j 5 with h|h
     ·exact HE.out j h
     ·obtain rfl:j=5:=by omega
      exact HEk.out
    case measure=>simp [intOf]
   ·have herb:(er != 0)=true:=by rw [bne_iff_ne];exact her
    have HFin:=Lib.hid (show R=(RuleP.none,er) by rw [HR.out,firstE_at _ 5 er HE.out HEk.out her,if_neg her]);clear her HR HE HEk;have z0:=HZ2.out.1.cell_ (i:=0) rfl;have y0:=HZ2.out.1.frozen 0;have z1:=HZ2.out.1.cell_ (i:=1) rfl;have y1:=HZ2.out.1.frozen 1;have z2:=HZ2.out.1.cell_ (i:=2) rfl;have y2:=HZ2.out.1.frozen 2;have z3:=HZ2.out.1.cell_ (i:=3) rfl;have y3:=HZ2.out.1.frozen 3;have z4:=HZ2.out.1.cell_ (i:=4) rfl;have y4:=HZ2.out.1.frozen 4;have z5:=HZ2.out.1.cell_ (i:=5) rfl;have y5:=HZ2.out.1.frozen 5;have z6:=HZ2.out.1.cell_ (i:=6) rfl;have y6:=HZ2.out.1.frozen 6;have z7:=HZ2.out.1.cell_ (i:=7) rfl;have y7:=HZ2.out.1.frozen 7;have z8:=HZ2.out.1.cell_ (i:=8) rfl;have y8:=HZ2.out.1.frozen 8;have z9:=HZ2.out.1.cell_ (i:=9) rfl;have y9:=HZ2.out.1.frozen 9;have z10:=HZ2.out.1.cell_ (i:=10) rfl;have y10:=HZ2.out.1.frozen 10;go_wp2_with fail
    refine bodyPost_ret (by simp [results,Tryz.results76,go_sem,z0,z1,z2,z3,z4,z5,z6,z7,z8,z9,z10];rfl) rfl ⟨?_,?_⟩
    ·rw [HFin.out];rfl
    ·have hBv:=HZ2.out.2.2.2;go_grown
  ·have cl:wr.cell? ⟨bl,ol+6,none⟩=some (.string s6):=(hb.cell (p:=⟨bl,ol+6,none⟩) hbl).trans (HC.out 6 _ rfl)
   have cf:wr.cell? ⟨w.heap.size+1+1,6,none⟩=some (.func (.func 151) #[] #[]):=bf.cell_ rfl;clear bf hb;have HF:=Lib.hid (show Calls Tryz.prog 151 #[.pointer (some ⟨w.heap.size+1,0,none⟩),.string s6] wr fun e w'=>e=.returned (.int .i64 (clockR s6.data.toList).2)∧Blk w' (w.heap.size+1) 84 (uptoR 7 s0.data.toList s1.data.toList s2.data.toList s4.data.toList s5.data.toList s6.data.toList s7.data.toList s8.data.toList).cells∧But (w.heap.size+1) wr w' from field6_any s6 (w.heap.size+1) _ wr h6 HT1.out HBR.out);have HEk:=Lib.hid (show (errsR s0.data.toList s1.data.toList s2.data.toList s4.data.toList s5.data.toList s6.data.toList s7.data.toList s8.data.toList)[6]? = some (clockR s6.data.toList).2 from rfl);generalize (clockR s6.data.toList).2=er at *;go_wp2_with fail
   refine HF.out.mono ?_;rintro e w2 ⟨rfl,br2,hbut⟩;have HZ2:=Lib.hid (And.intro (HZ.out.1.but hbut (by omega)) (And.intro br2 (And.intro (HZ.out.2.1.but hbut (by omega)) (hbut.below HZ.out.2.2 (by omega) (Nat.le_refl _)))));clear br2 hbut HZ HBR HF
   by_cases her:er=0
   ·subst her
    go_wp2_with fail
    go_roundw
    case rel =>
     refine ⟨7,by omega,rfl,HZ2.out.1,HZ2.out.2.1,HZ2.out.2.2.1,HZ2.out.2.2.2,fun j hj=>?_⟩
     rcases Nat.lt_or_ge j 6 with h|h
     ·exact HE.out j h
     ·obtain rfl:j=6:=by omega
      exact HEk.out
    case measure=>simp [intOf]
   ·have herb:(er != 0)=true:=by rw [bne_iff_ne];exact her
    have HFin:=Lib.hid (show R=(RuleP.none,er) by rw [HR.out,firstE_at _ 6 er HE.out HEk.out her,if_neg her]);clear her HR HE HEk;have z0:=HZ2.out.1.cell_ (i:=0) rfl;have y0:=HZ2.out.1.frozen 0;have z1:=HZ2.out.1.cell_ (i:=1) rfl;have y1:=HZ2.out.1.frozen 1;have z2:=HZ2.out.1.cell_ (i:=2) rfl;have y2:=HZ2.out.1.frozen 2;have z3:=HZ2.out.1.cell_ (i:=3) rfl;have y3:=HZ2.out.1.frozen 3;have z4:=HZ2.out.1.cell_ (i:=4) rfl;have y4:=HZ2.out.1.frozen 4;have z5:=HZ2.out.1.cell_ (i:=5) rfl;have y5:=HZ2.out.1.frozen 5;have z6:=HZ2.out.1.cell_ (i:=6) rfl;have y6:=HZ2.out.1.frozen 6;have z7:=HZ2.out.1.cell_ (i:=7) rfl;have y7:=HZ2.out.1.frozen 7;have z8:=HZ2.out.1.cell_ (i:=8) rfl;have y8:=HZ2.out.1.frozen 8;have z9:=HZ2.out.1.cell_ (i:=9) rfl;have y9:=HZ2.out.1.frozen 9;have z10:=HZ2.out.1.cell_ (i:=10) rfl;have y10:=HZ2.out.1.frozen 10;go_wp2_with fail
    refine bodyPost_ret (by simp [results,Tryz.results76,go_sem,z0,z1,z2,z3,z4,z5,z6,z7,z8,z9,z10];rfl) rfl ⟨?_,?_⟩
    ·rw [HFin.out];rfl
    ·have hBv:=HZ2.out.2.2.2;go_grown
  ·have cl:wr.cell? ⟨bl,ol+7,none⟩=some (.string s7):=(hb.cell (p:=⟨bl,ol+7,none⟩) hbl).trans (HC.out 7 _ rfl)
   have cf:wr.cell? ⟨w.heap.size+1+1,7,none⟩=some (.func (.func 152) #[] #[]):=bf.cell_ rfl;clear bf hb;have HF:=Lib.hid (show Calls Tryz.prog 152 #[.pointer (some ⟨w.heap.size+1,0,none⟩),.string s7] wr fun e w'=>e=.returned (.int .i64 (offParseR s7.data.toList).2)∧Blk w' (w.heap.size+1) 84 (uptoR 8 s0.data.toList s1.data.toList s2.data.toList s4.data.toList s5.data.toList s6.data.toList s7.data.toList s8.data.toList).cells∧But (w.heap.size+1) wr w' from field7_any s7 (w.heap.size+1) _ wr h7 HT1.out HBR.out);have HEk:=Lib.hid (show (errsR s0.data.toList s1.data.toList s2.data.toList s4.data.toList s5.data.toList s6.data.toList s7.data.toList s8.data.toList)[7]? = some (offParseR s7.data.toList).2 from rfl);generalize (offParseR s7.data.toList).2=er at *;go_wp2_with fail
   refine HF.out.mono ?_;rintro e w2 ⟨rfl,br2,hbut⟩;have HZ2:=Lib.hid (And.intro (HZ.out.1.but hbut (by omega)) (And.intro br2 (And.intro (HZ.out.2.1.but hbut (by omega)) (hbut.below HZ.out.2.2 (by omega) (Nat.le_refl _)))));clear br2 hbut HZ HBR HF
   by_cases her:er=0
   ·subst her
    go_wp2_with fail
    go_roundw
    case rel =>
     refine ⟨8,by omega,rfl,HZ2.out.1,HZ2.out.2.1,HZ2.out.2.2.1,HZ2.out.2.2.2,fun j hj=>?_⟩
     rcases Nat.lt_or_ge j 7 with h|h
     ·exact HE.out j h
     ·obtain rfl:j=7:=by omega
      exact HEk.out
    case measure=>simp [intOf]
   ·have herb:(er != 0)=true:=by rw [bne_iff_ne];exact her
    have HFin:=Lib.hid (show R=(RuleP.none,er) by rw [HR.out,firstE_at _ 7 er HE.out HEk.out her,if_neg her]);clear her HR HE HEk;have z0:=HZ2.out.1.cell_ (i:=0) rfl;have y0:=HZ2.out.1.frozen 0;have z1:=HZ2.out.1.cell_ (i:=1) rfl;have y1:=HZ2.out.1.frozen 1;have z2:=HZ2.out.1.cell_ (i:=2) rfl;have y2:=HZ2.out.1.frozen 2;have z3:=HZ2.out.1.cell_ (i:=3) rfl;have y3:=HZ2.out.1.frozen 3;have z4:=HZ2.out.1.cell_ (i:=4) rfl;have y4:=HZ2.out.1.frozen 4;have z5:=HZ2.out.1.cell_ (i:=5) rfl;have y5:=HZ2.out.1.frozen 5;have z6:=HZ2.out.1.cell_ (i:=6) rfl;have y6:=HZ2.out.1.frozen 6;have z7:=HZ2.out.1.cell_ (i:=7) rfl;have y7:=HZ2.out.1.frozen 7;have z8:=HZ2.out.1.cell_ (i:=8) rfl;have y8:=HZ2.out.1.frozen 8;have z9:=HZ2.out.1.cell_ (i:=9) rfl;have y9:=HZ2.out.1.frozen 9;have z10:=HZ2.out.1.cell_ (i:=10) rfl;have y10:=HZ2.out.1.frozen 10;go_wp2_with fail
    refine bodyPost_ret (by simp [results,Tryz.results76,go_sem,z0,z1,z2,z3,z4,z5,z6,z7,z8,z9,z10];rfl) rfl ⟨?_,?_⟩
    ·rw [HFin.out];rfl
    ·have hBv:=HZ2.out.2.2.2;go_grown
  ·have cl:wr.cell? ⟨bl,ol+8,none⟩=some (.string s8):=(hb.cell (p:=⟨bl,ol+8,none⟩) hbl).trans (HC.out 8 _ rfl)
   have cf:wr.cell? ⟨w.heap.size+1+1,8,none⟩=some (.func (.func 153) #[] #[]):=bf.cell_ rfl;clear bf hb;have HF:=Lib.hid (show Calls Tryz.prog 153 #[.pointer (some ⟨w.heap.size+1,0,none⟩),.string s8] wr fun e w'=>e=.returned (.int .i64 (letterR s8.data.toList).2)∧Blk w' (w.heap.size+1) 84 (uptoR 9 s0.data.toList s1.data.toList s2.data.toList s4.data.toList s5.data.toList s6.data.toList s7.data.toList s8.data.toList).cells∧But (w.heap.size+1) wr w' from field8_any s8 (w.heap.size+1) _ wr h8 HT1.out HBR.out);have HEk:=Lib.hid (show (errsR s0.data.toList s1.data.toList s2.data.toList s4.data.toList s5.data.toList s6.data.toList s7.data.toList s8.data.toList)[8]? = some (letterR s8.data.toList).2 from rfl);generalize (letterR s8.data.toList).2=er at *;go_wp2_with fail
   refine HF.out.mono ?_;rintro e w2 ⟨rfl,br2,hbut⟩;have HZ2:=Lib.hid (And.intro (HZ.out.1.but hbut (by omega)) (And.intro br2 (And.intro (HZ.out.2.1.but hbut (by omega)) (hbut.below HZ.out.2.2 (by omega) (Nat.le_refl _)))));clear br2 hbut HZ HBR HF
   by_cases her:er=0
   ·subst her
    go_wp2_with fail
    go_roundw
    case rel =>
     refine ⟨9,by omega,rfl,HZ2.out.1,HZ2.out.2.1,HZ2.out.2.2.1,HZ2.out.2.2.2,fun j hj=>?_⟩
     rcases Nat.lt_or_ge j 8 with h|h
     ·exact HE.out j h
     ·obtain rfl:j=8:=by omega
      exact HEk.out
    case measure=>simp [intOf]
   ·have herb:(er != 0)=true:=by rw [bne_iff_ne];exact her
    have HFin:=Lib.hid (show R=(RuleP.none,er) by rw [HR.out,firstE_at _ 8 er HE.out HEk.out her,if_neg her]);clear her HR HE HEk;have z0:=HZ2.out.1.cell_ (i:=0) rfl;have y0:=HZ2.out.1.frozen 0;have z1:=HZ2.out.1.cell_ (i:=1) rfl;have y1:=HZ2.out.1.frozen 1;have z2:=HZ2.out.1.cell_ (i:=2) rfl;have y2:=HZ2.out.1.frozen 2;have z3:=HZ2.out.1.cell_ (i:=3) rfl;have y3:=HZ2.out.1.frozen 3;have z4:=HZ2.out.1.cell_ (i:=4) rfl;have y4:=HZ2.out.1.frozen 4;have z5:=HZ2.out.1.cell_ (i:=5) rfl;have y5:=HZ2.out.1.frozen 5;have z6:=HZ2.out.1.cell_ (i:=6) rfl;have y6:=HZ2.out.1.frozen 6;have z7:=HZ2.out.1.cell_ (i:=7) rfl;have y7:=HZ2.out.1.frozen 7;have z8:=HZ2.out.1.cell_ (i:=8) rfl;have y8:=HZ2.out.1.frozen 8;have z9:=HZ2.out.1.cell_ (i:=9) rfl;have y9:=HZ2.out.1.frozen 9;have z10:=HZ2.out.1.cell_ (i:=10) rfl;have y10:=HZ2.out.1.frozen 10;go_wp2_with fail
    refine bodyPost_ret (by simp [results,Tryz.results76,go_sem,z0,z1,z2,z3,z4,z5,z6,z7,z8,z9,z10];rfl) rfl ⟨?_,?_⟩
    ·rw [HFin.out];rfl
    ·have hBv:=HZ2.out.2.2.2;go_grown
def RHeld (w:World) (g:Nat) (sn:ByteArray) (fr tl mo dk dw dd hs hb sv:Int) (sl:ByteArray) (W:World):Prop :=
 W.cell? ⟨g,0,none⟩=some (.string sn)∧W.cell? ⟨g,1,none⟩=some (.int .i64 fr)∧W.cell? ⟨g,2,none⟩=some (.int .i64 tl)∧W.cell? ⟨g,3,none⟩=some (.int .i64 mo)∧W.cell? ⟨g,4,none⟩=some (.int .i64 dk)∧W.cell? ⟨g,5,none⟩=some (.int .i64 dw)∧W.cell? ⟨g,6,none⟩=some (.int .i64 dd)∧W.cell? ⟨g,7,none⟩=some (.int .i64 hs)∧W.cell? ⟨g,8,none⟩=some (.int .i64 hb)∧W.cell? ⟨g,9,none⟩=some (.int .i64 sv)∧W.cell? ⟨g,10,none⟩=some (.string sl)∧Below w.heap.size w W
theorem RHeld.below {w W W':World} {g:Nat} {sn sl:ByteArray} {fr tl mo dk dw dd hs hb sv:Int} (h:RHeld w g sn fr tl mo dk dw dd hs hb sv sl W) (hbw:Below W.heap.size W W'):RHeld w g sn fr tl mo dk dw dd hs hb sv sl W':=by
 obtain ⟨h0,h1,h2,h3,h4,h5,h6,h7,h8,h9,h10,h11⟩:=h;have g:∀i v,W.cell? ⟨g,i,none⟩=some v→W'.cell? ⟨g,i,none⟩=some v:=fun i v hv=>(hbw.cell (block_lt_of_cell hv)).trans hv
 exact ⟨g _ _ h0,g _ _ h1,g _ _ h2,g _ _ h3,g _ _ h4,g _ _ h5,g _ _ h6,g _ _ h7,g _ _ h8,g _ _ h9,g _ _ h10,h11.trans (hbw.mono h11.size)⟩
end Go.Proofs.YtciclddfhohieaaGreatDoor
