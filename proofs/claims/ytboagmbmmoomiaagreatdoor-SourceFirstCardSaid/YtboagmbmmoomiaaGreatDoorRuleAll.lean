/-
  ruleline.until, ruleline.letter, ruleline.set, the closures of ruleline.fields: what each call returns.
  ruleline.Parse: what the call returns.
  Rules and their lines, in plain Lean: the line of a rule that can be written is read as that rule, and what is read can be written.
  ruleline.last, ruleline.Print: what the calls return.
-/
import Derived.Test.YtboagmbmmoomiaaGreatDoorOffAll
import Derived.Test.YtboagmbmmoomiaaGreatDoorDayAll
import Derived.Handy
import Derived.Outline
import Derived.Deep.RegionHeld3
import Derived.BigQuiet
import Derived.Lib.Join
set_option linter.unusedVariables false
set_option maxRecDepth 100000
set_option maxHeartbeats 4000000
namespace Go.Proofs.YtboagmbmmoomiaaGreatDoor
open Go.Lib (hid)
open Go.RowKit
structure RTabs (w:World):Prop where
 kinds:Kinds w
 weeks:Weeks w
 folds:Folds w
 months:Months w
 tos:Tos w
 units:Units w
 pows:Pows w
 esyn:ErrSyn w
 eran:ErrRan w
theorem RTabs.below {w w':World} (h:RTabs w) (hb:Below w.heap.size w w'):RTabs w' :=
 ⟨h.kinds.below hb,h.weeks.below hb,h.folds.below hb,h.months.below hb,h.tos.below hb,h.units.below hb,h.pows.below hb,h.esyn.below hb,h.eran.below hb⟩
def untilR (l:List UInt8) (f:Int):Int × Int :=
 if (∃c ∈ l.head?,48≤c.toNat∧c.toNat≤57) then yearR l
 else if (wordR toL 1 l).2=0 then (if (wordR toL 1 l).1=1 then (f,0) else (1048576,0)) else (0,(wordR toL 1 l).2)
def letterR (l:List UInt8):List UInt8 × Int:=if l=[45] then ([],0) else if ofB 1 4 1 l=true then (l,0) else ([],5)
def setR (l:List UInt8):List UInt8 × Int:=if setB l=true then (l,0) else ([],9)
theorem until_year {l:List UInt8} {c:UInt8} (h:l.head? = some c) (hc:48≤c.toNat∧c.toNat≤57) (f:Int):untilR l f=yearR l:=if_pos ⟨c,h,hc⟩
theorem until_word {l:List UInt8} (h:∀c,l.head? = some c→¬(48≤c.toNat∧c.toNat≤57)) (f:Int):untilR l f=if (wordR toL 1 l).2=0 then (if (wordR toL 1 l).1=1 then (f,0) else (1048576,0)) else (0,(wordR toL 1 l).2) :=
 if_neg (fun ⟨c,h1,h2⟩=>h c h1 h2)
theorem until_any (s:ByteArray) (f:Int) (w:World) (hs:s.size≤1048576) (hT:RTabs w) :
 Calls Tryz.prog 172 #[.string s,.int .i64 f] w fun e w'=>e=.returned (.tuple #[.int .i64 (untilR s.data.toList f).1,.int .i64 (untilR s.data.toList f).2])∧Below w.heap.size w w':=by
 have HY:=hid (year_any s w hs hT.pows hT.esyn hT.eran);have HW:=hid (to_any s w hT.tos hs);clear hT
 by_cases h0:s.size=0
 ·obtain rfl:=empty_of h0
  have HR:=hid (show untilR (⟨#[]⟩:ByteArray).data.toList f=(0,8) from rfl);have HW2:Hid (Calls Tryz.prog 196 #[.string ⟨#[]⟩] w fun e w'=>e=.returned (.tuple #[.int .i64 0,.int .i64 8])∧Below w.heap.size w w'):=HW
  go_enter Tryz.func172,Tryz.ntmps172;go_wp2_with fail
  refine HW2.out.mono ?_;rintro e w1 ⟨rfl,hb1⟩;have HB:=hid hb1;clear hb1 HW HY HW2;go_wp2_with fail
  go_ret2
  exact ⟨by rw [HR.out];rfl,HB.out⟩
 obtain ⟨a,ha,hg⟩:=head_at h0;have hne:=list_empty h0;have hs0:0<s.size:=by omega
 have g0:∀h,(s[0]'h).toNat=a.toNat:=fun h=>by rw [hg]
 by_cases hd:48≤a.toNat∧a.toNat≤57
 ·have HR:=hid (until_year ha hd f)
  obtain ⟨h48,h57⟩:=hd;have h48i:(48:Int)≤(a.toNat:Int):=by omega
  have h57i:(a.toNat:Int)≤57:=by omega
  generalize yearR s.data.toList=y at *;clear hg ha HW h48 h57
  go_enter Tryz.func172,Tryz.ntmps172;go_wp2_with fail
  refine HY.out.mono ?_;rintro e w1 ⟨rfl,hb1⟩;have HB:=hid hb1;clear hb1 HY;go_wp2_with fail
  go_ret2
  exact ⟨by rw [HR.out];rfl,HB.out⟩
 ·have HR:=hid (until_word (l:=s.data.toList) (fun c hc=>by rw [ha] at hc;cases hc;exact hd) f)
  have hwe:=wordR_err toL 1 s.data.toList;generalize wordR toL 1 s.data.toList=y at *;obtain ⟨n,er⟩:=y;have hwe:er=0∨er=8:=hwe;clear hg ha HY h0
  rcases (by omega:(48≤(a.toNat:Int)∧¬(a.toNat:Int)≤57)∨¬48≤(a.toNat:Int)) with ⟨h48,h57⟩|h48
  all_goals
   clear hd
   go_enter Tryz.func172,Tryz.ntmps172;go_wp2_with fail
   refine HW.out.mono ?_;rintro e w1 ⟨rfl,hb1⟩;have HB:=hid hb1;clear hb1 HW
   rcases hwe with rfl|rfl
   ·by_cases h1:n=1
    ·subst h1
     go_wp2_with fail
     go_ret2
     exact ⟨by rw [HR.out];rfl,HB.out⟩
    ·have h1b:(n==1)=false:=beq_eq_false_iff_ne.2 h1
     have HR2:=hid (show untilR s.data.toList f=(1048576,0) by rw [HR.out];simp only [if_true];rw [if_neg h1]);clear h1;go_wp2_with fail
     go_ret2
     exact ⟨by rw [HR2.out];rfl,HB.out⟩
   ·go_wp2_with fail
    go_ret2
    exact ⟨by rw [HR.out];rfl,HB.out⟩
theorem rset_any (s:ByteArray) (w:World) (hs:s.size≤1048576) :
 Calls Tryz.prog 168 #[.string s] w fun e w'=>e=.returned (.tuple #[.string ⟨(setR s.data.toList).1.toArray⟩,.int .i64 (setR s.data.toList).2])∧Below w.heap.size w w':=by
 have HS:=hid (set_any s w hs)
 cases hb:setB s.data.toList
 ·have HR:=hid (show setR s.data.toList=([],9) by rw [setR,hb];rfl)
  rw [hb] at HS;clear hb
  go_enter Tryz.func168,Tryz.ntmps168;go_wp2_with fail
  refine HS.out.mono ?_;rintro e w1 ⟨rfl,hb1⟩;go_wp2_with fail
  go_ret2
  exact ⟨by rw [HR.out];rfl,hb1⟩
 ·have HR:=hid (show setR s.data.toList=(s.data.toList,0) by rw [setR,hb];rfl)
  rw [hb] at HS;clear hb
  go_enter Tryz.func168,Tryz.ntmps168;go_wp2_with fail
  refine HS.out.mono ?_;rintro e w1 ⟨rfl,hb1⟩;go_wp2_with fail
  go_ret2
  exact ⟨by rw [HR.out];rfl,hb1⟩
theorem rletter_any (s:ByteArray) (w:World) (hs:s.size≤1048576) :
 Calls Tryz.prog 179 #[.string s] w fun e w'=>e=.returned (.tuple #[.string ⟨(letterR s.data.toList).1.toArray⟩,.int .i64 (letterR s.data.toList).2])∧Below w.heap.size w w':=by
 by_cases h45:s.data.toList=[45]
 ·obtain rfl:=str_of h45
  have HR:=hid (show letterR (⟨#[45]⟩:ByteArray).data.toList=([],0) from rfl);clear h45
  go_enter Tryz.func179,Tryz.ntmps179;go_wp2_with fail
  go_ret2
  exact ⟨by rw [HR.out];rfl,Below.refl _ _⟩
 ·have hne:=str_ne h45
  have HS:=hid (letter_any s w hs)
  cases hb:ofB 1 4 1 s.data.toList
  ·have HR:=hid (show letterR s.data.toList=([],5) by rw [letterR,if_neg h45,hb];rfl)
   rw [hb] at HS;clear hb h45
   go_enter Tryz.func179,Tryz.ntmps179;go_wp2_with fail
   refine HS.out.mono ?_;rintro e w1 ⟨rfl,hb1⟩;go_wp2_with fail
   go_ret2
   exact ⟨by rw [HR.out];rfl,hb1⟩
  ·have HR:=hid (show letterR s.data.toList=(s.data.toList,0) by rw [letterR,if_neg h45,hb];rfl)
   rw [hb] at HS;clear hb h45
   go_enter Tryz.func179,Tryz.ntmps179;go_wp2_with fail
   refine HS.out.mono ?_;rintro e w1 ⟨rfl,hb1⟩;go_wp2_with fail
   go_ret2
   exact ⟨by rw [HR.out];rfl,hb1⟩
structure RuleP where
 name:List UInt8
 frm:Int
 til:Int
 mon:Int
 day:Int × Int × Int
 hour:Int × Int
 save:Int
 lett:List UInt8
deriving DecidableEq
def RuleP.none:RuleP:=⟨[],0,0,0,(0,0,0),(0,0),0,[]⟩
def RuleP.cells (r:RuleP):Array Value:=#[.string ⟨r.name.toArray⟩,.int .i64 r.frm,.int .i64 r.til,.int .i64 r.mon,.int .i64 r.day.1,.int .i64 r.day.2.1,.int .i64 r.day.2.2,.int .i64 r.hour.1,.int .i64 r.hour.2,.int .i64 r.save,.string ⟨r.lett.toArray⟩]
theorem field1_any (s:ByteArray) (g:Nat) (r:RuleP) (w:World) (hs:s.size≤1048576) (hT:RTabs w) (hB:Blk w g 55 r.cells) :
 Calls Tryz.prog 167 #[.pointer (some ⟨g,0,none⟩),.string s] w fun e w'=>e=.returned (.int .i64 (setR s.data.toList).2)∧Blk w' g 55 ({ r with name:=(setR s.data.toList).1 } : RuleP).cells∧But g w w':=by
 have HC:=hid (rset_any s w hs);generalize setR s.data.toList=y at *;obtain ⟨y1,y2⟩:=y;have hlt:=hB.lt;clear hT
 go_enter Tryz.func167,Tryz.ntmps167;go_wp2_with fail
 refine HC.out.mono ?_;rintro e w1 ⟨rfl,hb1⟩;have b1:=hB.below hb1 hlt;have c0:=b1.cell_ (i:=0) rfl;have f0:=b1.frozen 0;have HB:=hid (And.intro b1 hb1);clear b1 hb1 hB HC;go_wp2_with fail
 go_ret
 refine ⟨rfl,?_,?_⟩
 ·exact HB.out.1.set_ 0 _
 ·exact (But.of HB.out.2).set _ _
theorem field2_any (s:ByteArray) (g:Nat) (r:RuleP) (w:World) (hs:s.size≤1048576) (hT:RTabs w) (hB:Blk w g 55 r.cells) :
 Calls Tryz.prog 169 #[.pointer (some ⟨g,0,none⟩),.string s] w fun e w'=>e=.returned (.int .i64 (yearR s.data.toList).2)∧Blk w' g 55 ({ r with frm:=(yearR s.data.toList).1 } : RuleP).cells∧But g w w':=by
 have HC:=hid (year_any s w hs hT.pows hT.esyn hT.eran);generalize yearR s.data.toList=y at *;obtain ⟨y1,y2⟩:=y;have hlt:=hB.lt;clear hT
 go_enter Tryz.func169,Tryz.ntmps169;go_wp2_with fail
 refine HC.out.mono ?_;rintro e w1 ⟨rfl,hb1⟩;have b1:=hB.below hb1 hlt;have c1:=b1.cell_ (i:=1) rfl;have f1:=b1.frozen 1;have HB:=hid (And.intro b1 hb1);clear b1 hb1 hB HC;go_wp2_with fail
 go_ret
 refine ⟨rfl,?_,?_⟩
 ·exact HB.out.1.set_ 1 _
 ·exact (But.of HB.out.2).set _ _
theorem field3_any (s:ByteArray) (g:Nat) (r:RuleP) (w:World) (hs:s.size≤1048576) (hT:RTabs w) (hB:Blk w g 55 r.cells) :
 Calls Tryz.prog 171 #[.pointer (some ⟨g,0,none⟩),.string s] w fun e w'=>e=.returned (.int .i64 (untilR s.data.toList r.frm).2)∧Blk w' g 55 ({ r with til:=(untilR s.data.toList r.frm).1 } : RuleP).cells∧But g w w':=by
 have HC:=hid (until_any s r.frm w hs hT);have cf:=hB.cell_ (i:=1) rfl;generalize untilR s.data.toList r.frm=y at *;obtain ⟨y1,y2⟩:=y;have hlt:=hB.lt;clear hT
 go_enter Tryz.func171,Tryz.ntmps171;go_wp2_with fail
 refine HC.out.mono ?_;rintro e w1 ⟨rfl,hb1⟩;have b1:=hB.below hb1 hlt;have c2:=b1.cell_ (i:=2) rfl;have f2:=b1.frozen 2;have HB:=hid (And.intro b1 hb1);clear b1 hb1 hB HC;go_wp2_with fail
 go_ret
 refine ⟨rfl,?_,?_⟩
 ·exact HB.out.1.set_ 2 _
 ·exact (But.of HB.out.2).set _ _
theorem field4_any (s:ByteArray) (g:Nat) (r:RuleP) (w:World) (hs:s.size≤1048576) (hT:RTabs w) (hB:Blk w g 55 r.cells) :
 Calls Tryz.prog 174 #[.pointer (some ⟨g,0,none⟩),.string s] w fun e w'=>e=.returned (.int .i64 (wordR monthL 1 s.data.toList).2)∧Blk w' g 55 ({ r with mon:=(wordR monthL 1 s.data.toList).1 } : RuleP).cells∧But g w w':=by
 have HC:=hid (month_any s w hT.months hs);generalize wordR monthL 1 s.data.toList=y at *;obtain ⟨y1,y2⟩:=y;have hlt:=hB.lt;clear hT
 go_enter Tryz.func174,Tryz.ntmps174;go_wp2_with fail
 refine HC.out.mono ?_;rintro e w1 ⟨rfl,hb1⟩;have b1:=hB.below hb1 hlt;have c3:=b1.cell_ (i:=3) rfl;have f3:=b1.frozen 3;have HB:=hid (And.intro b1 hb1);clear b1 hb1 hB HC;go_wp2_with fail
 go_ret
 refine ⟨rfl,?_,?_⟩
 ·exact HB.out.1.set_ 3 _
 ·exact (But.of HB.out.2).set _ _
theorem field5_any (s:ByteArray) (g:Nat) (r:RuleP) (w:World) (hs:s.size≤1048576) (hT:RTabs w) (hB:Blk w g 55 r.cells) :
 Calls Tryz.prog 175 #[.pointer (some ⟨g,0,none⟩),.string s] w fun e w'=>e=.returned (.int .i64 (parseR s.data.toList).2)∧Blk w' g 55 ({ r with day:=(parseR s.data.toList).1 } : RuleP).cells∧But g w w':=by
 have HC:=hid (parse_any s hs w hT.weeks hT.folds);generalize parseR s.data.toList=y at *;obtain ⟨y1,y2⟩:=y;obtain ⟨ya,yb,yc⟩:=y1;unfold dayV at HC;have hlt:=hB.lt;clear hT
 go_enter Tryz.func175,Tryz.ntmps175;go_wp2_with fail
 refine HC.out.mono ?_;rintro e w1 ⟨rfl,hb1⟩;have b1:=hB.below hb1 hlt;have c4:=b1.cell_ (i:=4) rfl;have f4:=b1.frozen 4;have c5:=b1.cell_ (i:=5) rfl;have f5:=b1.frozen 5;have c6:=b1.cell_ (i:=6) rfl;have f6:=b1.frozen 6;have HB:=hid (And.intro b1 hb1);clear b1 hb1 hB HC;go_wp2_with fail
 go_ret
 refine ⟨rfl,?_,?_⟩
 ·exact ((HB.out.1.set_ 4 _).set_ 5 _).set_ 6 _
 ·exact (((But.of HB.out.2).set _ _).set _ _).set _ _
theorem field6_any (s:ByteArray) (g:Nat) (r:RuleP) (w:World) (hs:s.size≤1048576) (hT:RTabs w) (hB:Blk w g 55 r.cells) :
 Calls Tryz.prog 176 #[.pointer (some ⟨g,0,none⟩),.string s] w fun e w'=>e=.returned (.int .i64 (clockR s.data.toList).2)∧Blk w' g 55 ({ r with hour:=(clockR s.data.toList).1 } : RuleP).cells∧But g w w':=by
 have HC:=hid (clockParse_any s w hs hT.units hT.esyn);generalize clockR s.data.toList=y at *;obtain ⟨y1,y2⟩:=y;obtain ⟨ya,yb⟩:=y1;have hlt:=hB.lt;clear hT
 go_enter Tryz.func176,Tryz.ntmps176;go_wp2_with fail
 refine HC.out.mono ?_;rintro e w1 ⟨rfl,hb1⟩;have b1:=hB.below hb1 hlt;have c7:=b1.cell_ (i:=7) rfl;have f7:=b1.frozen 7;have c8:=b1.cell_ (i:=8) rfl;have f8:=b1.frozen 8;have HB:=hid (And.intro b1 hb1);clear b1 hb1 hB HC;go_wp2_with fail
 go_ret
 refine ⟨rfl,?_,?_⟩
 ·exact (HB.out.1.set_ 7 _).set_ 8 _
 ·exact ((But.of HB.out.2).set _ _).set _ _
theorem field7_any (s:ByteArray) (g:Nat) (r:RuleP) (w:World) (hs:s.size≤1048576) (hT:RTabs w) (hB:Blk w g 55 r.cells) :
 Calls Tryz.prog 177 #[.pointer (some ⟨g,0,none⟩),.string s] w fun e w'=>e=.returned (.int .i64 (offParseR s.data.toList).2)∧Blk w' g 55 ({ r with save:=(offParseR s.data.toList).1 } : RuleP).cells∧But g w w':=by
 have HC:=hid (offParse_any s w hs hT.units hT.esyn);generalize offParseR s.data.toList=y at *;obtain ⟨y1,y2⟩:=y;have hlt:=hB.lt;clear hT
 go_enter Tryz.func177,Tryz.ntmps177;go_wp2_with fail
 refine HC.out.mono ?_;rintro e w1 ⟨rfl,hb1⟩;have b1:=hB.below hb1 hlt;have c9:=b1.cell_ (i:=9) rfl;have f9:=b1.frozen 9;have HB:=hid (And.intro b1 hb1);clear b1 hb1 hB HC;go_wp2_with fail
 go_ret
 refine ⟨rfl,?_,?_⟩
 ·exact HB.out.1.set_ 9 _
 ·exact (But.of HB.out.2).set _ _
theorem field8_any (s:ByteArray) (g:Nat) (r:RuleP) (w:World) (hs:s.size≤1048576) (hT:RTabs w) (hB:Blk w g 55 r.cells) :
 Calls Tryz.prog 178 #[.pointer (some ⟨g,0,none⟩),.string s] w fun e w'=>e=.returned (.int .i64 (letterR s.data.toList).2)∧Blk w' g 55 ({ r with lett:=(letterR s.data.toList).1 } : RuleP).cells∧But g w w':=by
 have HC:=hid (rletter_any s w hs);generalize letterR s.data.toList=y at *;obtain ⟨y1,y2⟩:=y;have hlt:=hB.lt;clear hT
 go_enter Tryz.func178,Tryz.ntmps178;go_wp2_with fail
 refine HC.out.mono ?_;rintro e w1 ⟨rfl,hb1⟩;have b1:=hB.below hb1 hlt;have c10:=b1.cell_ (i:=10) rfl;have f10:=b1.frozen 10;have HB:=hid (And.intro b1 hb1);clear b1 hb1 hB HC;go_wp2_with fail
 go_ret
 refine ⟨rfl,?_,?_⟩
 ·exact HB.out.1.set_ 10 _
 ·exact (But.of HB.out.2).set _ _
theorem skip_any (g:Nat) (s:ByteArray) (w:World) :
 Calls Tryz.prog 173 #[.pointer (some ⟨g,0,none⟩),.string s] w fun e w'=>e=.returned (.int .i64 0)∧w=w':=by
 go_enter Tryz.func173,Tryz.ntmps173
 go_wp2
 go_ret
 exact ⟨rfl,rfl⟩
def fieldsA:Array Value:=#[.func (.func 167) #[] #[],.func (.func 169) #[] #[],.func (.func 171) #[] #[],.func (.func 173) #[] #[],.func (.func 174) #[] #[],.func (.func 175) #[] #[],.func (.func 176) #[] #[],.func (.func 177) #[] #[],.func (.func 178) #[] #[]]
theorem fields_any (w:World):Calls Tryz.prog 142 #[] w fun e w'=>e=.returned (.slice (some ⟨w.heap.size,0,none⟩) 9 9)∧w.alloc (.cells fieldsA 237)=w':=by
 go_enter Tryz.func142,Tryz.ntmps142
 go_wp2
 go_ret
 exact ⟨rfl,rfl⟩
def firstE:List Int→Int
 | []=>0
 | e::r=>if e=0 then firstE r else e
theorem firstE_at:∀(es:List Int) (k:Nat) (e:Int),(∀j,j<k→es[j]? = some 0)→es[k]? = some e→e≠0→firstE es=e
 | [],k,e,_,h,_=>by simp at h
 | a::es,0,e,_,h,he=>by
  have h:a=e:=by simpa using h
  subst h;exact if_neg he
 | a::es,k+1,e,h0,h,he=>by
  have ha:a=0:=by have:=h0 0 (by omega);simpa using this
  rw [firstE,if_pos ha];exact firstE_at es k e (fun j hj=>by have:=h0 (j+1) (by omega);simpa using this) (by simpa using h) he
theorem firstE_all:∀(es:List Int) (n:Nat),(∀j,j<n→es[j]? = some 0)→es.length=n→firstE es=0
 | [],_,_,_=>rfl
 | a::es,n,h,hl=>by
  have ha:a=0:=by have:=h 0 (by simp at hl;omega);simpa using this
  rw [firstE,if_pos ha];exact firstE_all es (n-1) (fun j hj=>by have:=h (j+1) (by omega);simpa using this) (by simp at hl;omega)
def errsR (a0 a1 a2 a4 a5 a6 a7 a8:List UInt8):List Int:=[(setR a0).2,(yearR a1).2,(untilR a2 (yearR a1).1).2,0,(wordR monthL 1 a4).2,(parseR a5).2,(clockR a6).2,(offParseR a7).2,(letterR a8).2]
def uptoR (k:Nat) (a0 a1 a2 a4 a5 a6 a7 a8:List UInt8):RuleP :=
 ⟨if 0<k then (setR a0).1 else [],if 1<k then (yearR a1).1 else 0,if 2<k then (untilR a2 (yearR a1).1).1 else 0,if 4<k then (wordR monthL 1 a4).1 else 0,if 5<k then (parseR a5).1 else (0,0,0),if 6<k then (clockR a6).1 else (0,0),if 7<k then (offParseR a7).1 else 0,if 8<k then (letterR a8).1 else []⟩
def ruleR (l:List (List UInt8)):RuleP × Int:=match l with
 | [a0,a1,a2,a3,a4,a5,a6,a7,a8]=>if a3=[45] then (if firstE (errsR a0 a1 a2 a4 a5 a6 a7 a8)=0 then (uptoR 9 a0 a1 a2 a4 a5 a6 a7 a8,0) else (RuleP.none,firstE (errsR a0 a1 a2 a4 a5 a6 a7 a8))) else (RuleP.none,5)
 | _=>(RuleP.none,5)
def ruleV (r:RuleP):Value:=.agg r.cells
theorem infoRule:(Tryz.prog.info? 55).map (·.size)=some 11:=by kernel_rfl
theorem RuleP.size (r:RuleP):r.cells.size=11:=rfl
theorem RuleP.one (r:RuleP):r.cells.all (·.oneCell')=true:=by simp [RuleP.cells,Value.oneCell']
theorem infoR (r:RuleP):(Tryz.prog.info? 55).map (·.size)=some r.cells.size:=infoRule
theorem ruleParse_n (A:Option Addr) (n c:Nat) (w:World) (hn:n≠9) :
 Calls Tryz.prog 118 #[.slice A n c] w fun e w'=>e=.returned (.tuple #[ruleV RuleP.none,.int .i64 5])∧Below w.heap.size w w':=by
 have hn9:((n:Int) != 9)=true:=by rw [bne_iff_ne];omega
 clear hn
 go_enter Tryz.func118,Tryz.ntmps118;go_wp2_with fail
 refine bodyPost_ret (by simp [results,Tryz.results118,go_sem];rfl) rfl ⟨rfl,by go_grown⟩
theorem ruleParse_9 (bl ol c:Nat) (s0 s1 s2 s3 s4 s5 s6 s7 s8:ByteArray) (w:World) (hT:RTabs w) (hbl:bl<w.heap.size)
 (h0:s0.size≤1048576) (h1:s1.size≤1048576) (h2:s2.size≤1048576) (h4:s4.size≤1048576) (h5:s5.size≤1048576) (h6:s6.size≤1048576) (h7:s7.size≤1048576) (h8:s8.size≤1048576)
 (hc:∀j s,[s0,s1,s2,s3,s4,s5,s6,s7,s8][j]? = some s→w.cell? ⟨bl,ol+j,none⟩=some (.string s)) (h3:s3.data.toList=[45]) :
 Calls Tryz.prog 118 #[.slice (some ⟨bl,ol,none⟩) 9 c] w fun e w'=>e=.returned (.tuple #[ruleV (ruleR ([s0,s1,s2,s3,s4,s5,s6,s7,s8].map fun s=>s.data.toList)).1,.int .i64 (ruleR ([s0,s1,s2,s3,s4,s5,s6,s7,s8].map fun s=>s.data.toList)).2])∧Below w.heap.size w w':=by
 obtain ⟨R,hR⟩:∃R,ruleR ([s0,s1,s2,s3,s4,s5,s6,s7,s8].map fun s=>s.data.toList)=R:=⟨_,rfl⟩;rw [hR];have HR:=hid (show R=if firstE (errsR s0.data.toList s1.data.toList s2.data.toList s4.data.toList s5.data.toList s6.data.toList s7.data.toList s8.data.toList)=0 then (uptoR 9 s0.data.toList s1.data.toList s2.data.toList s4.data.toList s5.data.toList s6.data.toList s7.data.toList s8.data.toList,0) else (RuleP.none,firstE (errsR s0.data.toList s1.data.toList s2.data.toList s4.data.toList s5.data.toList s6.data.toList s7.data.toList s8.data.toList)) from hR.symm.trans (if_pos h3));obtain rfl:=str_of h3;have HC:=hid hc;have l3:w.cell? ⟨bl,ol+3,none⟩=some (.string ⟨#[45]⟩):=hc 3 _ rfl;clear hR h3 hc
 go_enter Tryz.func118,Tryz.ntmps118;go_wp2_with fail
 refine (fields_any _).mono ?_;rintro e w1 ⟨rfl,hw1⟩;have bz:Blk w1 w.heap.size 55 RuleP.none.cells:=hw1 ▸ ((Blk.new' _ _ _ rfl).alloc _).alloc _;have br:Blk w1 (w.heap.size+1) 55 (uptoR 0 s0.data.toList s1.data.toList s2.data.toList s4.data.toList s5.data.toList s6.data.toList s7.data.toList s8.data.toList).cells:=hw1 ▸ (Blk.new' _ _ _ (by simp)).alloc _;have bf:Blk w1 (w.heap.size+1+1) 237 fieldsA:=hw1 ▸ Blk.new' _ _ _ (by simp);have HW:=hid (And.intro bz (And.intro br (And.intro bf (show Below w.heap.size w w1 from hw1 ▸ (((Below.refl _ _).alloc (Nat.le_refl _) _).alloc (by simp) _).alloc (by simp;omega) _))));clear bz br bf hw1;go_wp2_with fail
 go_loopw [20] (fun i wr=>∃k:Nat,k≤9∧i=.int .i64 (k:Int)∧Blk wr w.heap.size 55 RuleP.none.cells∧Blk wr (w.heap.size+1) 55 (uptoR k s0.data.toList s1.data.toList s2.data.toList s4.data.toList s5.data.toList s6.data.toList s7.data.toList s8.data.toList).cells∧Blk wr (w.heap.size+1+1) 237 fieldsA∧Below w.heap.size w wr∧Aside (∀j,j<k→(errsR s0.data.toList s1.data.toList s2.data.toList s4.data.toList s5.data.toList s6.data.toList s7.data.toList s8.data.toList)[j]? = some 0)) (fun i _=>9-(intOf i).toNat)
 case atStart=>exact ⟨0,by omega,rfl,HW.out.1,HW.out.2.1,HW.out.2.2.1,HW.out.2.2.2,fun j hj=>absurd hj (by omega)⟩
 case round =>
  obtain ⟨k,hk,rfl,bz,br,bf,hb,hes⟩:=hrel;have HE:=hid hes.out;have HZ:=hid (And.intro bz (And.intro bf hb));have hlt:=bf.lt;clear hes HW l3
  by_cases hk9:k=9
  ·subst hk9
   have HF:=hid (show R=(uptoR 9 s0.data.toList s1.data.toList s2.data.toList s4.data.toList s5.data.toList s6.data.toList s7.data.toList s8.data.toList,0) by rw [HR.out,if_pos (firstE_all _ 9 HE.out rfl)]);obtain ⟨C,hC⟩:∃C,(uptoR 9 s0.data.toList s1.data.toList s2.data.toList s4.data.toList s5.data.toList s6.data.toList s7.data.toList s8.data.toList).cells=C:=⟨_,rfl⟩;rw [hC] at br;have hCi:(Tryz.prog.info? 55).map (·.size)=some C.size:=hC ▸ infoR _;have hC1:C.all (·.oneCell')=true:=hC ▸ RuleP.one _;have hCs:C.size=11:=hC ▸ rfl;have HBR:=hid br;have HCC:=hid (And.intro hCi (And.intro hC1 hCs));have HC9:=hid hC;have Hth:=hid (show wr.there w.heap.size 0 C.size from HZ.out.1.there (by rw [hCs];exact Nat.le_refl _));clear bz br bf hb HR HE HC hCi hC1 hCs hC
   go_wp2_with (first
    | (refine wpList_load_row rfl 55 (.tmp 4) rfl (w.heap.size+1) rfl 55 C (0,0) _ HBR.out Tryz.underlying55 rfl HCC.out.1 ?_)
    | (refine wpList_store_mid rfl 55 (.tmp 2) (.tmp 36) rfl w.heap.size 0 C rfl rfl Hth.out HCC.out.1 HCC.out.2.1 ?_))
   refine bodyPost_ret (results_cell_tmp rfl _ _ w.heap.size 55 C _ _ rfl rfl (HZ.out.1.setAll C HCC.out.2.2) Tryz.underlying55 rfl HCC.out.1) rfl ⟨?_,below_sets (Nat.le_refl _) _ _ _ HZ.out.2.2⟩;rw [HF.out,ruleV,HC9.out]
   rfl
  have hT1:RTabs wr:=hT.below hb;have HT1:=hid hT1;have HBR:=hid br;clear br hT1 bz
  rcases (by omega:k=0∨k=1∨k=2∨k=3∨k=4∨k=5∨k=6∨k=7∨k=8) with rfl|rfl|rfl|rfl|rfl|rfl|rfl|rfl|rfl
  ·have cl:wr.cell? ⟨bl,ol,none⟩=some (.string s0):=(hb.cell (p:=⟨bl,ol+0,none⟩) hbl).trans (HC.out 0 _ rfl)
   have cf:wr.cell? ⟨w.heap.size+1+1,0,none⟩=some (.func (.func 167) #[] #[]):=bf.cell_ rfl;clear bf hb;have HF:=hid (show Calls Tryz.prog 167 #[.pointer (some ⟨w.heap.size+1,0,none⟩),.string s0] wr fun e w'=>e=.returned (.int .i64 (setR s0.data.toList).2)∧Blk w' (w.heap.size+1) 55 (uptoR 1 s0.data.toList s1.data.toList s2.data.toList s4.data.toList s5.data.toList s6.data.toList s7.data.toList s8.data.toList).cells∧But (w.heap.size+1) wr w' from field1_any s0 (w.heap.size+1) _ wr h0 HT1.out HBR.out);have HEk:=hid (show (errsR s0.data.toList s1.data.toList s2.data.toList s4.data.toList s5.data.toList s6.data.toList s7.data.toList s8.data.toList)[0]? = some (setR s0.data.toList).2 from rfl);generalize (setR s0.data.toList).2=er at *;go_wp2_with fail
   refine HF.out.mono ?_;rintro e w2 ⟨rfl,br2,hbut⟩;have HZ2:=hid (And.intro (HZ.out.1.but hbut (by omega)) (And.intro br2 (And.intro (HZ.out.2.1.but hbut (by omega)) (hbut.below HZ.out.2.2 (by omega) (Nat.le_refl _)))));clear br2 hbut HZ HBR HF
   by_cases her:er=0
   ·subst her
    go_wp2_with fail
    go_roundw
    case rel =>
     refine ⟨1,by omega,rfl,HZ2.out.1,HZ2.out.2.1,HZ2.out.2.2.1,HZ2.out.2.2.2,fun j hj=>?_⟩
     rcases Nat.lt_or_ge j 0 with h|h
     ·exact HE.out j h
     ·obtain rfl:j=0:=by omega
      exact HEk.out
    case measure=>simp [intOf]
   ·have herb:(er != 0)=true:=by rw [bne_iff_ne];exact her
    have HFin:=hid (show R=(RuleP.none,er) by rw [HR.out,firstE_at _ 0 er HE.out HEk.out her,if_neg her]);clear her HR HE HEk;have z0:=HZ2.out.1.cell_ (i:=0) rfl;have y0:=HZ2.out.1.frozen 0;have z1:=HZ2.out.1.cell_ (i:=1) rfl;have y1:=HZ2.out.1.frozen 1;have z2:=HZ2.out.1.cell_ (i:=2) rfl;have y2:=HZ2.out.1.frozen 2;have z3:=HZ2.out.1.cell_ (i:=3) rfl;have y3:=HZ2.out.1.frozen 3;have z4:=HZ2.out.1.cell_ (i:=4) rfl;have y4:=HZ2.out.1.frozen 4;have z5:=HZ2.out.1.cell_ (i:=5) rfl;have y5:=HZ2.out.1.frozen 5;have z6:=HZ2.out.1.cell_ (i:=6) rfl;have y6:=HZ2.out.1.frozen 6;have z7:=HZ2.out.1.cell_ (i:=7) rfl;have y7:=HZ2.out.1.frozen 7;have z8:=HZ2.out.1.cell_ (i:=8) rfl;have y8:=HZ2.out.1.frozen 8;have z9:=HZ2.out.1.cell_ (i:=9) rfl;have y9:=HZ2.out.1.frozen 9;have z10:=HZ2.out.1.cell_ (i:=10) rfl;have y10:=HZ2.out.1.frozen 10;go_wp2_with fail
    refine bodyPost_ret (by simp [results,Tryz.results118,go_sem,z0,z1,z2,z3,z4,z5,z6,z7,z8,z9,z10];rfl) rfl ⟨?_,?_⟩
    ·rw [HFin.out];rfl
    ·have hBv:=HZ2.out.2.2.2;go_grown
  ·have cl:wr.cell? ⟨bl,ol+1,none⟩=some (.string s1):=(hb.cell (p:=⟨bl,ol+1,none⟩) hbl).trans (HC.out 1 _ rfl)
   have cf:wr.cell? ⟨w.heap.size+1+1,1,none⟩=some (.func (.func 169) #[] #[]):=bf.cell_ rfl;clear bf hb;have HF:=hid (show Calls Tryz.prog 169 #[.pointer (some ⟨w.heap.size+1,0,none⟩),.string s1] wr fun e w'=>e=.returned (.int .i64 (yearR s1.data.toList).2)∧Blk w' (w.heap.size+1) 55 (uptoR 2 s0.data.toList s1.data.toList s2.data.toList s4.data.toList s5.data.toList s6.data.toList s7.data.toList s8.data.toList).cells∧But (w.heap.size+1) wr w' from field2_any s1 (w.heap.size+1) _ wr h1 HT1.out HBR.out);have HEk:=hid (show (errsR s0.data.toList s1.data.toList s2.data.toList s4.data.toList s5.data.toList s6.data.toList s7.data.toList s8.data.toList)[1]? = some (yearR s1.data.toList).2 from rfl);generalize (yearR s1.data.toList).2=er at *;go_wp2_with fail
   refine HF.out.mono ?_;rintro e w2 ⟨rfl,br2,hbut⟩;have HZ2:=hid (And.intro (HZ.out.1.but hbut (by omega)) (And.intro br2 (And.intro (HZ.out.2.1.but hbut (by omega)) (hbut.below HZ.out.2.2 (by omega) (Nat.le_refl _)))));clear br2 hbut HZ HBR HF
   by_cases her:er=0
   ·subst her
    go_wp2_with fail
    go_roundw
    case rel =>
     refine ⟨2,by omega,rfl,HZ2.out.1,HZ2.out.2.1,HZ2.out.2.2.1,HZ2.out.2.2.2,fun j hj=>?_⟩
     rcases Nat.lt_or_ge j 1 with h|h
     ·exact HE.out j h
     ·obtain rfl:j=1:=by omega
      exact HEk.out
    case measure=>simp [intOf]
   ·have herb:(er != 0)=true:=by rw [bne_iff_ne];exact her
    have HFin:=hid (show R=(RuleP.none,er) by rw [HR.out,firstE_at _ 1 er HE.out HEk.out her,if_neg her]);clear her HR HE HEk;have z0:=HZ2.out.1.cell_ (i:=0) rfl;have y0:=HZ2.out.1.frozen 0;have z1:=HZ2.out.1.cell_ (i:=1) rfl;have y1:=HZ2.out.1.frozen 1;have z2:=HZ2.out.1.cell_ (i:=2) rfl;have y2:=HZ2.out.1.frozen 2;have z3:=HZ2.out.1.cell_ (i:=3) rfl;have y3:=HZ2.out.1.frozen 3;have z4:=HZ2.out.1.cell_ (i:=4) rfl;have y4:=HZ2.out.1.frozen 4;have z5:=HZ2.out.1.cell_ (i:=5) rfl;have y5:=HZ2.out.1.frozen 5;have z6:=HZ2.out.1.cell_ (i:=6) rfl;have y6:=HZ2.out.1.frozen 6;have z7:=HZ2.out.1.cell_ (i:=7) rfl;have y7:=HZ2.out.1.frozen 7;have z8:=HZ2.out.1.cell_ (i:=8) rfl;have y8:=HZ2.out.1.frozen 8;have z9:=HZ2.out.1.cell_ (i:=9) rfl;have y9:=HZ2.out.1.frozen 9;have z10:=HZ2.out.1.cell_ (i:=10) rfl;have y10:=HZ2.out.1.frozen 10;go_wp2_with fail
    refine bodyPost_ret (by simp [results,Tryz.results118,go_sem,z0,z1,z2,z3,z4,z5,z6,z7,z8,z9,z10];rfl) rfl ⟨?_,?_⟩
    ·rw [HFin.out];rfl
    ·have hBv:=HZ2.out.2.2.2;go_grown
  ·have cl:wr.cell? ⟨bl,ol+2,none⟩=some (.string s2):=(hb.cell (p:=⟨bl,ol+2,none⟩) hbl).trans (HC.out 2 _ rfl)
   have cf:wr.cell? ⟨w.heap.size+1+1,2,none⟩=some (.func (.func 171) #[] #[]):=bf.cell_ rfl;clear bf hb;have HF:=hid (show Calls Tryz.prog 171 #[.pointer (some ⟨w.heap.size+1,0,none⟩),.string s2] wr fun e w'=>e=.returned (.int .i64 (untilR s2.data.toList (yearR s1.data.toList).1).2)∧Blk w' (w.heap.size+1) 55 (uptoR 3 s0.data.toList s1.data.toList s2.data.toList s4.data.toList s5.data.toList s6.data.toList s7.data.toList s8.data.toList).cells∧But (w.heap.size+1) wr w' from field3_any s2 (w.heap.size+1) _ wr h2 HT1.out HBR.out);have HEk:=hid (show (errsR s0.data.toList s1.data.toList s2.data.toList s4.data.toList s5.data.toList s6.data.toList s7.data.toList s8.data.toList)[2]? = some (untilR s2.data.toList (yearR s1.data.toList).1).2 from rfl);generalize (untilR s2.data.toList (yearR s1.data.toList).1).2=er at *;go_wp2_with fail
   refine HF.out.mono ?_;rintro e w2 ⟨rfl,br2,hbut⟩;have HZ2:=hid (And.intro (HZ.out.1.but hbut (by omega)) (And.intro br2 (And.intro (HZ.out.2.1.but hbut (by omega)) (hbut.below HZ.out.2.2 (by omega) (Nat.le_refl _)))));clear br2 hbut HZ HBR HF
   by_cases her:er=0
   ·subst her
    go_wp2_with fail
    go_roundw
    case rel =>
     refine ⟨3,by omega,rfl,HZ2.out.1,HZ2.out.2.1,HZ2.out.2.2.1,HZ2.out.2.2.2,fun j hj=>?_⟩
     rcases Nat.lt_or_ge j 2 with h|h
     ·exact HE.out j h
     ·obtain rfl:j=2:=by omega
      exact HEk.out
    case measure=>simp [intOf]
   ·have herb:(er != 0)=true:=by rw [bne_iff_ne];exact her
    have HFin:=hid (show R=(RuleP.none,er) by rw [HR.out,firstE_at _ 2 er HE.out HEk.out her,if_neg her]);clear her HR HE HEk;have z0:=HZ2.out.1.cell_ (i:=0) rfl;have y0:=HZ2.out.1.frozen 0;have z1:=HZ2.out.1.cell_ (i:=1) rfl;have y1:=HZ2.out.1.frozen 1;have z2:=HZ2.out.1.cell_ (i:=2) rfl;have y2:=HZ2.out.1.frozen 2;have z3:=HZ2.out.1.cell_ (i:=3) rfl;have y3:=HZ2.out.1.frozen 3;have z4:=HZ2.out.1.cell_ (i:=4) rfl;have y4:=HZ2.out.1.frozen 4;have z5:=HZ2.out.1.cell_ (i:=5) rfl;have y5:=HZ2.out.1.frozen 5;have z6:=HZ2.out.1.cell_ (i:=6) rfl;have y6:=HZ2.out.1.frozen 6;have z7:=HZ2.out.1.cell_ (i:=7) rfl;have y7:=HZ2.out.1.frozen 7;have z8:=HZ2.out.1.cell_ (i:=8) rfl;have y8:=HZ2.out.1.frozen 8;have z9:=HZ2.out.1.cell_ (i:=9) rfl;have y9:=HZ2.out.1.frozen 9;have z10:=HZ2.out.1.cell_ (i:=10) rfl;have y10:=HZ2.out.1.frozen 10;go_wp2_with fail
    refine bodyPost_ret (by simp [results,Tryz.results118,go_sem,z0,z1,z2,z3,z4,z5,z6,z7,z8,z9,z10];rfl) rfl ⟨?_,?_⟩
    ·rw [HFin.out];rfl
    ·have hBv:=HZ2.out.2.2.2;go_grown
  ·have cl:wr.cell? ⟨bl,ol+3,none⟩=some (.string ⟨#[45]⟩):=(hb.cell (p:=⟨bl,ol+3,none⟩) hbl).trans (HC.out 3 _ rfl)
   have cf:wr.cell? ⟨w.heap.size+1+1,3,none⟩=some (.func (.func 173) #[] #[]):=bf.cell_ rfl;clear bf hb;go_wp2_with fail
   refine (skip_any _ _ _).mono ?_;rintro e w2 ⟨rfl,rfl⟩;go_wp2_with fail
   go_roundw
   case rel =>
    refine ⟨4,by omega,rfl,HZ.out.1,HBR.out,HZ.out.2.1,HZ.out.2.2,fun j hj=>?_⟩
    rcases Nat.lt_or_ge j 3 with h|h
    ·exact HE.out j h
    ·obtain rfl:j=3:=by omega
     rfl
   case measure=>simp [intOf]
  ·have cl:wr.cell? ⟨bl,ol+4,none⟩=some (.string s4):=(hb.cell (p:=⟨bl,ol+4,none⟩) hbl).trans (HC.out 4 _ rfl)
   have cf:wr.cell? ⟨w.heap.size+1+1,4,none⟩=some (.func (.func 174) #[] #[]):=bf.cell_ rfl;clear bf hb;have HF:=hid (show Calls Tryz.prog 174 #[.pointer (some ⟨w.heap.size+1,0,none⟩),.string s4] wr fun e w'=>e=.returned (.int .i64 (wordR monthL 1 s4.data.toList).2)∧Blk w' (w.heap.size+1) 55 (uptoR 5 s0.data.toList s1.data.toList s2.data.toList s4.data.toList s5.data.toList s6.data.toList s7.data.toList s8.data.toList).cells∧But (w.heap.size+1) wr w' from field4_any s4 (w.heap.size+1) _ wr h4 HT1.out HBR.out);have HEk:=hid (show (errsR s0.data.toList s1.data.toList s2.data.toList s4.data.toList s5.data.toList s6.data.toList s7.data.toList s8.data.toList)[4]? = some (wordR monthL 1 s4.data.toList).2 from rfl);generalize (wordR monthL 1 s4.data.toList).2=er at *;go_wp2_with fail
   refine HF.out.mono ?_;rintro e w2 ⟨rfl,br2,hbut⟩;have HZ2:=hid (And.intro (HZ.out.1.but hbut (by omega)) (And.intro br2 (And.intro (HZ.out.2.1.but hbut (by omega)) (hbut.below HZ.out.2.2 (by omega) (Nat.le_refl _)))));clear br2 hbut HZ HBR HF
   by_cases her:er=0
   ·subst her
    go_wp2_with fail
    go_roundw
    case rel =>
     refine ⟨5,by omega,rfl,HZ2.out.1,HZ2.out.2.1,HZ2.out.2.2.1,HZ2.out.2.2.2,fun j hj=>?_⟩
     rcases Nat.lt_or_ge j 4 with h|h
     ·exact HE.out j h
     ·obtain rfl:j=4:=by omega
      exact HEk.out
    case measure=>simp [intOf]
   ·have herb:(er != 0)=true:=by rw [bne_iff_ne];exact her
    have HFin:=hid (show R=(RuleP.none,er) by rw [HR.out,firstE_at _ 4 er HE.out HEk.out her,if_neg her]);clear her HR HE HEk;have z0:=HZ2.out.1.cell_ (i:=0) rfl;have y0:=HZ2.out.1.frozen 0;have z1:=HZ2.out.1.cell_ (i:=1) rfl;have y1:=HZ2.out.1.frozen 1;have z2:=HZ2.out.1.cell_ (i:=2) rfl;have y2:=HZ2.out.1.frozen 2;have z3:=HZ2.out.1.cell_ (i:=3) rfl;have y3:=HZ2.out.1.frozen 3;have z4:=HZ2.out.1.cell_ (i:=4) rfl;have y4:=HZ2.out.1.frozen 4;have z5:=HZ2.out.1.cell_ (i:=5) rfl;have y5:=HZ2.out.1.frozen 5;have z6:=HZ2.out.1.cell_ (i:=6) rfl;have y6:=HZ2.out.1.frozen 6;have z7:=HZ2.out.1.cell_ (i:=7) rfl;have y7:=HZ2.out.1.frozen 7;have z8:=HZ2.out.1.cell_ (i:=8) rfl;have y8:=HZ2.out.1.frozen 8;have z9:=HZ2.out.1.cell_ (i:=9) rfl;have y9:=HZ2.out.1.frozen 9;have z10:=HZ2.out.1.cell_ (i:=10) rfl;have y10:=HZ2.out.1.frozen 10;go_wp2_with fail
    refine bodyPost_ret (by simp [results,Tryz.results118,go_sem,z0,z1,z2,z3,z4,z5,z6,z7,z8,z9,z10];rfl) rfl ⟨?_,?_⟩
    ·rw [HFin.out];rfl
    ·have hBv:=HZ2.out.2.2.2;go_grown
  ·have cl:wr.cell? ⟨bl,ol+5,none⟩=some (.string s5):=(hb.cell (p:=⟨bl,ol+5,none⟩) hbl).trans (HC.out 5 _ rfl)
   have cf:wr.cell? ⟨w.heap.size+1+1,5,none⟩=some (.func (.func 175) #[] #[]):=bf.cell_ rfl;clear bf hb;have HF:=hid (show Calls Tryz.prog 175 #[.pointer (some ⟨w.heap.size+1,0,none⟩),.string s5] wr fun e w'=>e=.returned (.int .i64 (parseR s5.data.toList).2)∧Blk w' (w.heap.size+1) 55 (uptoR 6 s0.data.toList s1.data.toList s2.data.toList s4.data.toList s5.data.toList s6.data.toList s7.data.toList s8.data.toList).cells∧But (w.heap.size+1) wr w' from field5_any s5 (w.heap.size+1) _ wr h5 HT1.out HBR.out);have HEk:=hid (show (errsR s0.data.toList s1.data.toList s2.data.toList s4.data.toList s5.data.toList s6.data.toList s7.data.toList s8.data.toList)[5]? = some (parseR s5.data.toList).2 from rfl);generalize (parseR s5.data.toList).2=er at *;go_wp2_with fail
   refine HF.out.mono ?_;rintro e w2 ⟨rfl,br2,hbut⟩;have HZ2:=hid (And.intro (HZ.out.1.but hbut (by omega)) (And.intro br2 (And.intro (HZ.out.2.1.but hbut (by omega)) (hbut.below HZ.out.2.2 (by omega) (Nat.le_refl _)))));clear br2 hbut HZ HBR HF
   by_cases her:er=0
   ·subst her
    go_wp2_with fail
    go_roundw
    case rel =>
     refine ⟨6,by omega,rfl,HZ2.out.1,HZ2.out.2.1,HZ2.out.2.2.1,HZ2.out.2.2.2,fun j hj=>?_⟩
     rcases Nat.lt_or_ge j 5 with h|h
     ·exact HE.out j h
     ·obtain rfl:j=5:=by omega
      exact HEk.out
    case measure=>simp [intOf]
   ·have herb:(er != 0)=true:=by rw [bne_iff_ne];exact her
    have HFin:=hid (show R=(RuleP.none,er) by rw [HR.out,firstE_at _ 5 er HE.out HEk.out her,if_neg her]);clear her HR HE HEk;have z0:=HZ2.out.1.cell_ (i:=0) rfl;have y0:=HZ2.out.1.frozen 0;have z1:=HZ2.out.1.cell_ (i:=1) rfl;have y1:=HZ2.out.1.frozen 1;have z2:=HZ2.out.1.cell_ (i:=2) rfl;have y2:=HZ2.out.1.frozen 2;have z3:=HZ2.out.1.cell_ (i:=3) rfl;have y3:=HZ2.out.1.frozen 3;have z4:=HZ2.out.1.cell_ (i:=4) rfl;have y4:=HZ2.out.1.frozen 4;have z5:=HZ2.out.1.cell_ (i:=5) rfl;have y5:=HZ2.out.1.frozen 5;have z6:=HZ2.out.1.cell_ (i:=6) rfl;have y6:=HZ2.out.1.frozen 6;have z7:=HZ2.out.1.cell_ (i:=7) rfl;have y7:=HZ2.out.1.frozen 7;have z8:=HZ2.out.1.cell_ (i:=8) rfl;have y8:=HZ2.out.1.frozen 8;have z9:=HZ2.out.1.cell_ (i:=9) rfl;have y9:=HZ2.out.1.frozen 9;have z10:=HZ2.out.1.cell_ (i:=10) rfl;have y10:=HZ2.out.1.frozen 10;go_wp2_with fail
    refine bodyPost_ret (by simp [results,Tryz.results118,go_sem,z0,z1,z2,z3,z4,z5,z6,z7,z8,z9,z10];rfl) rfl ⟨?_,?_⟩
    ·rw [HFin.out];rfl
    ·have hBv:=HZ2.out.2.2.2;go_grown
  ·have cl:wr.cell? ⟨bl,ol+6,none⟩=some (.string s6):=(hb.cell (p:=⟨bl,ol+6,none⟩) hbl).trans (HC.out 6 _ rfl)
   have cf:wr.cell? ⟨w.heap.size+1+1,6,none⟩=some (.func (.func 176) #[] #[]):=bf.cell_ rfl;clear bf hb;have HF:=hid (show Calls Tryz.prog 176 #[.pointer (some ⟨w.heap.size+1,0,none⟩),.string s6] wr fun e w'=>e=.returned (.int .i64 (clockR s6.data.toList).2)∧Blk w' (w.heap.size+1) 55 (uptoR 7 s0.data.toList s1.data.toList s2.data.toList s4.data.toList s5.data.toList s6.data.toList s7.data.toList s8.data.toList).cells∧But (w.heap.size+1) wr w' from field6_any s6 (w.heap.size+1) _ wr h6 HT1.out HBR.out);have HEk:=hid (show (errsR s0.data.toList s1.data.toList s2.data.toList s4.data.toList s5.data.toList s6.data.toList s7.data.toList s8.data.toList)[6]? = some (clockR s6.data.toList).2 from rfl);generalize (clockR s6.data.toList).2=er at *;go_wp2_with fail
   refine HF.out.mono ?_;rintro e w2 ⟨rfl,br2,hbut⟩;have HZ2:=hid (And.intro (HZ.out.1.but hbut (by omega)) (And.intro br2 (And.intro (HZ.out.2.1.but hbut (by omega)) (hbut.below HZ.out.2.2 (by omega) (Nat.le_refl _)))));clear br2 hbut HZ HBR HF
   by_cases her:er=0
   ·subst her
    go_wp2_with fail
    go_roundw
    case rel =>
     refine ⟨7,by omega,rfl,HZ2.out.1,HZ2.out.2.1,HZ2.out.2.2.1,HZ2.out.2.2.2,fun j hj=>?_⟩
     rcases Nat.lt_or_ge j 6 with h|h
     ·exact HE.out j h
     ·obtain rfl:j=6:=by omega
      exact HEk.out
    case measure=>simp [intOf]
   ·have herb:(er != 0)=true:=by rw [bne_iff_ne];exact her
    have HFin:=hid (show R=(RuleP.none,er) by rw [HR.out,firstE_at _ 6 er HE.out HEk.out her,if_neg her]);clear her HR HE HEk;have z0:=HZ2.out.1.cell_ (i:=0) rfl;have y0:=HZ2.out.1.frozen 0;have z1:=HZ2.out.1.cell_ (i:=1) rfl;have y1:=HZ2.out.1.frozen 1;have z2:=HZ2.out.1.cell_ (i:=2) rfl;have y2:=HZ2.out.1.frozen 2;have z3:=HZ2.out.1.cell_ (i:=3) rfl;have y3:=HZ2.out.1.frozen 3;have z4:=HZ2.out.1.cell_ (i:=4) rfl;have y4:=HZ2.out.1.frozen 4;have z5:=HZ2.out.1.cell_ (i:=5) rfl;have y5:=HZ2.out.1.frozen 5;have z6:=HZ2.out.1.cell_ (i:=6) rfl;have y6:=HZ2.out.1.frozen 6;have z7:=HZ2.out.1.cell_ (i:=7) rfl;have y7:=HZ2.out.1.frozen 7;have z8:=HZ2.out.1.cell_ (i:=8) rfl;have y8:=HZ2.out.1.frozen 8;have z9:=HZ2.out.1.cell_ (i:=9) rfl;have y9:=HZ2.out.1.frozen 9;have z10:=HZ2.out.1.cell_ (i:=10) rfl;have y10:=HZ2.out.1.frozen 10;go_wp2_with fail
    refine bodyPost_ret (by simp [results,Tryz.results118,go_sem,z0,z1,z2,z3,z4,z5,z6,z7,z8,z9,z10];rfl) rfl ⟨?_,?_⟩
    ·rw [HFin.out];rfl
    ·have hBv:=HZ2.out.2.2.2;go_grown
  ·have cl:wr.cell? ⟨bl,ol+7,none⟩=some (.string s7):=(hb.cell (p:=⟨bl,ol+7,none⟩) hbl).trans (HC.out 7 _ rfl)
   have cf:wr.cell? ⟨w.heap.size+1+1,7,none⟩=some (.func (.func 177) #[] #[]):=bf.cell_ rfl;clear bf hb;have HF:=hid (show Calls Tryz.prog 177 #[.pointer (some ⟨w.heap.size+1,0,none⟩),.string s7] wr fun e w'=>e=.returned (.int .i64 (offParseR s7.data.toList).2)∧Blk w' (w.heap.size+1) 55 (uptoR 8 s0.data.toList s1.data.toList s2.data.toList s4.data.toList s5.data.toList s6.data.toList s7.data.toList s8.data.toList).cells∧But (w.heap.size+1) wr w' from field7_any s7 (w.heap.size+1) _ wr h7 HT1.out HBR.out);have HEk:=hid (show (errsR s0.data.toList s1.data.toList s2.data.toList s4.data.toList s5.data.toList s6.data.toList s7.data.toList s8.data.toList)[7]? = some (offParseR s7.data.toList).2 from rfl);generalize (offParseR s7.data.toList).2=er at *;go_wp2_with fail
   refine HF.out.mono ?_;rintro e w2 ⟨rfl,br2,hbut⟩;have HZ2:=hid (And.intro (HZ.out.1.but hbut (by omega)) (And.intro br2 (And.intro (HZ.out.2.1.but hbut (by omega)) (hbut.below HZ.out.2.2 (by omega) (Nat.le_refl _)))));clear br2 hbut HZ HBR HF
   by_cases her:er=0
   ·subst her
    go_wp2_with fail
    go_roundw
    case rel =>
     refine ⟨8,by omega,rfl,HZ2.out.1,HZ2.out.2.1,HZ2.out.2.2.1,HZ2.out.2.2.2,fun j hj=>?_⟩
     rcases Nat.lt_or_ge j 7 with h|h
     ·exact HE.out j h
     ·obtain rfl:j=7:=by omega
      exact HEk.out
    case measure=>simp [intOf]
   ·have herb:(er != 0)=true:=by rw [bne_iff_ne];exact her
    have HFin:=hid (show R=(RuleP.none,er) by rw [HR.out,firstE_at _ 7 er HE.out HEk.out her,if_neg her]);clear her HR HE HEk;have z0:=HZ2.out.1.cell_ (i:=0) rfl;have y0:=HZ2.out.1.frozen 0;have z1:=HZ2.out.1.cell_ (i:=1) rfl;have y1:=HZ2.out.1.frozen 1;have z2:=HZ2.out.1.cell_ (i:=2) rfl;have y2:=HZ2.out.1.frozen 2;have z3:=HZ2.out.1.cell_ (i:=3) rfl;have y3:=HZ2.out.1.frozen 3;have z4:=HZ2.out.1.cell_ (i:=4) rfl;have y4:=HZ2.out.1.frozen 4;have z5:=HZ2.out.1.cell_ (i:=5) rfl;have y5:=HZ2.out.1.frozen 5;have z6:=HZ2.out.1.cell_ (i:=6) rfl;have y6:=HZ2.out.1.frozen 6;have z7:=HZ2.out.1.cell_ (i:=7) rfl;have y7:=HZ2.out.1.frozen 7;have z8:=HZ2.out.1.cell_ (i:=8) rfl;have y8:=HZ2.out.1.frozen 8;have z9:=HZ2.out.1.cell_ (i:=9) rfl;have y9:=HZ2.out.1.frozen 9;have z10:=HZ2.out.1.cell_ (i:=10) rfl;have y10:=HZ2.out.1.frozen 10;go_wp2_with fail
    refine bodyPost_ret (by simp [results,Tryz.results118,go_sem,z0,z1,z2,z3,z4,z5,z6,z7,z8,z9,z10];rfl) rfl ⟨?_,?_⟩
    ·rw [HFin.out];rfl
    ·have hBv:=HZ2.out.2.2.2;go_grown
  ·have cl:wr.cell? ⟨bl,ol+8,none⟩=some (.string s8):=(hb.cell (p:=⟨bl,ol+8,none⟩) hbl).trans (HC.out 8 _ rfl)
   have cf:wr.cell? ⟨w.heap.size+1+1,8,none⟩=some (.func (.func 178) #[] #[]):=bf.cell_ rfl;clear bf hb;have HF:=hid (show Calls Tryz.prog 178 #[.pointer (some ⟨w.heap.size+1,0,none⟩),.string s8] wr fun e w'=>e=.returned (.int .i64 (letterR s8.data.toList).2)∧Blk w' (w.heap.size+1) 55 (uptoR 9 s0.data.toList s1.data.toList s2.data.toList s4.data.toList s5.data.toList s6.data.toList s7.data.toList s8.data.toList).cells∧But (w.heap.size+1) wr w' from field8_any s8 (w.heap.size+1) _ wr h8 HT1.out HBR.out);have HEk:=hid (show (errsR s0.data.toList s1.data.toList s2.data.toList s4.data.toList s5.data.toList s6.data.toList s7.data.toList s8.data.toList)[8]? = some (letterR s8.data.toList).2 from rfl);generalize (letterR s8.data.toList).2=er at *;go_wp2_with fail
   refine HF.out.mono ?_;rintro e w2 ⟨rfl,br2,hbut⟩;have HZ2:=hid (And.intro (HZ.out.1.but hbut (by omega)) (And.intro br2 (And.intro (HZ.out.2.1.but hbut (by omega)) (hbut.below HZ.out.2.2 (by omega) (Nat.le_refl _)))));clear br2 hbut HZ HBR HF
   by_cases her:er=0
   ·subst her
    go_wp2_with fail
    go_roundw
    case rel =>
     refine ⟨9,by omega,rfl,HZ2.out.1,HZ2.out.2.1,HZ2.out.2.2.1,HZ2.out.2.2.2,fun j hj=>?_⟩
     rcases Nat.lt_or_ge j 8 with h|h
     ·exact HE.out j h
     ·obtain rfl:j=8:=by omega
      exact HEk.out
    case measure=>simp [intOf]
   ·have herb:(er != 0)=true:=by rw [bne_iff_ne];exact her
    have HFin:=hid (show R=(RuleP.none,er) by rw [HR.out,firstE_at _ 8 er HE.out HEk.out her,if_neg her]);clear her HR HE HEk;have z0:=HZ2.out.1.cell_ (i:=0) rfl;have y0:=HZ2.out.1.frozen 0;have z1:=HZ2.out.1.cell_ (i:=1) rfl;have y1:=HZ2.out.1.frozen 1;have z2:=HZ2.out.1.cell_ (i:=2) rfl;have y2:=HZ2.out.1.frozen 2;have z3:=HZ2.out.1.cell_ (i:=3) rfl;have y3:=HZ2.out.1.frozen 3;have z4:=HZ2.out.1.cell_ (i:=4) rfl;have y4:=HZ2.out.1.frozen 4;have z5:=HZ2.out.1.cell_ (i:=5) rfl;have y5:=HZ2.out.1.frozen 5;have z6:=HZ2.out.1.cell_ (i:=6) rfl;have y6:=HZ2.out.1.frozen 6;have z7:=HZ2.out.1.cell_ (i:=7) rfl;have y7:=HZ2.out.1.frozen 7;have z8:=HZ2.out.1.cell_ (i:=8) rfl;have y8:=HZ2.out.1.frozen 8;have z9:=HZ2.out.1.cell_ (i:=9) rfl;have y9:=HZ2.out.1.frozen 9;have z10:=HZ2.out.1.cell_ (i:=10) rfl;have y10:=HZ2.out.1.frozen 10;go_wp2_with fail
    refine bodyPost_ret (by simp [results,Tryz.results118,go_sem,z0,z1,z2,z3,z4,z5,z6,z7,z8,z9,z10];rfl) rfl ⟨?_,?_⟩
    ·rw [HFin.out];rfl
    ·have hBv:=HZ2.out.2.2.2;go_grown
def onlyB:List UInt8:=[111,110,108,121]
def maxB:List UInt8:=[109,97,120]
def ruleB:List UInt8:=[82,117,108,101]
def lastT (f t:Int):List UInt8:=if t=f then onlyB else if t=1048576 then maxB else Lib.itoa t
def lettT (l:List UInt8):List UInt8:=if l=[] then [45] else l
def ruleOk (r:RuleP):Bool:=rightDay r.day.1 r.day.2.1 r.day.2.2&&clockOk r.hour.1 r.hour.2&&decide (-604799≤r.save∧r.save≤604799)&&setB r.name&&namedB r.frm&&(namedB r.til||decide (r.til=1048576))&&decide (1≤r.mon∧r.mon≤12)&&(decide (r.lett=[])||ofB 1 4 1 r.lett)
def ruleFs (r:RuleP):List (List UInt8):=[r.name,Lib.itoa r.frm,lastT r.frm r.til,[45],monthT r.mon,dayText r.day.1 r.day.2.1 r.day.2.2,clockT r.hour.1 r.hour.2,offTx r.save,lettT r.lett]
def ruleT (r:RuleP):List UInt8:=joinS (ruleB::ruleFs r)
def rulePrintR (r:RuleP):List UInt8 × Int:=if ruleOk r=true then (ruleT r,0) else ([],2)
structure RuleRight (r:RuleP):Prop where
 day:rightDay r.day.1 r.day.2.1 r.day.2.2=true
 hour:clockOk r.hour.1 r.hour.2=true
 save : -604799≤r.save∧r.save≤604799
 name:setB r.name=true
 frm:namedB r.frm=true
 til:namedB r.til=true∨r.til=1048576
 mon:1≤r.mon∧r.mon≤12
 lett:r.lett=[]∨ofB 1 4 1 r.lett=true
theorem ruleOk_iff (r:RuleP):ruleOk r=true↔RuleRight r:=by
 simp only [ruleOk,Bool.and_eq_true,Bool.or_eq_true,decide_eq_true_eq]
 constructor
 ·rintro ⟨⟨⟨⟨⟨⟨⟨h1,h2⟩,h3⟩,h4⟩,h5⟩,h6⟩,h7⟩,h8⟩;exact ⟨h1,h2,h3,h4,h5,h6,h7,h8⟩
 ·rintro ⟨h1,h2,h3,h4,h5,h6,h7,h8⟩;exact ⟨⟨⟨⟨⟨⟨⟨h1,h2⟩,h3⟩,h4⟩,h5⟩,h6⟩,h7⟩,h8⟩
theorem until_only (f:Int):untilR onlyB f=(f,0):=by
 have h:wordR toL 1 onlyB=(1,0):=by decide +kernel
 rw [until_word (by intro c hc;cases hc;decide),h];rfl
theorem until_max (f:Int):untilR maxB f=(1048576,0):=by
 have h:wordR toL 1 maxB=(2,0):=by decide +kernel
 rw [until_word (by intro c hc;cases hc;decide),h];rfl
theorem until_dec {y:Int} (f:Int) (h:namedB y=true):untilR (Lib.itoa y) f=(y,0):=by
 obtain ⟨n,rfl,h1,h2⟩:=named_nat h;obtain ⟨c,hc,hd⟩:=dec_head (n:=n);rw [until_year (by rw [itoa_nat];exact hc) hd,year_back h]
theorem until_back {f t:Int} (ht:namedB t=true∨t=1048576):untilR (lastT f t) f=(t,0):=by
 unfold lastT
 split
 ·rename_i h;rw [until_only,h]
 ·split
  ·rename_i h;rw [until_max,h]
  ·rename_i h
   exact until_dec f (ht.resolve_right h)
theorem lett_back {l:List UInt8} (h:l=[]∨ofB 1 4 1 l=true):letterR (lettT l)=(l,0):=by
 rcases h with rfl|h
 ·rfl
 ·have h0:l≠[]:=by rintro rfl;exact absurd h (by decide)
  have h1:l≠[45]:=by rintro rfl;exact absurd h (by decide)
  rw [lettT,if_neg h0,letterR,if_neg h1,if_pos h]
theorem set_back {l:List UInt8} (h:setB l=true):setR l=(l,0):=if_pos h
theorem rule_back {r:RuleP} (h:RuleRight r):ruleR (ruleFs r)=(r,0):=by
 have e0:=set_back h.name;have e1:=year_back h.frm;have e2:=until_back (f:=r.frm) h.til;have e4:=(month_back h.mon).1;have e5:=(day_back h.day).1;have e6:=clock_back h.hour;have e7:=off_back h.save;have e8:=lett_back h.lett;simp only [ruleR,ruleFs,errsR,uptoR,e0,e1,e2,e4,e5,e6,e7,e8,firstE,if_true]
 rfl
theorem rulast_any (r:RuleP) (w:World) (hP:Pows w) (ht:namedB r.til=true∨r.til=1048576) :
 Calls Tryz.prog 36 #[ruleV r] w fun e w'=>e=.returned (.string ⟨(lastT r.frm r.til).toArray⟩)∧Below w.heap.size w w':=by
 obtain ⟨nm,fr,tl,mo,⟨dk,dw,dd⟩,⟨hs,hb⟩,sv,lt⟩:=r
 have ht2 : -9223372036854775808≤tl∧tl≤9223372036854775807:=by
  rcases ht with h|h
  ·have h:=of_decide_eq_true h
   simp only at h
   omega
  ·simp only at h
   omega
 have HI:=hid (fun W (hW:Below w.heap.size w W)=>itoa_any tl W (hP.below hW) ht2.1 ht2.2);have HL:=hid (show lastT fr tl=if tl=fr then onlyB else if tl=1048576 then maxB else Lib.itoa tl from rfl);have hB0:∀o,Below w.heap.size w (w.alloc o):=fun o=>(Below.refl _ _).alloc (Nat.le_refl _) o
 have HB0:=hid hB0;clear ht ht2 hP hB0;simp only [ruleV,RuleP.cells]
 by_cases h1:tl=fr
 ·subst h1
  rw [if_pos rfl] at HL
  go_enter Tryz.func36,Tryz.ntmps36;go_wp2_with fail
  go_ret
  exact ⟨by rw [HL.out];rfl,HB0.out _⟩
 ·rw [if_neg h1] at HL
  by_cases h2:tl=1048576
  ·subst h2
   rw [if_pos rfl] at HL
   go_enter Tryz.func36,Tryz.ntmps36;go_wp2_with fail
   go_ret
   exact ⟨by rw [HL.out];rfl,HB0.out _⟩
  ·rw [if_neg h2] at HL
   go_enter Tryz.func36,Tryz.ntmps36;go_wp2_with fail
   refine (HI.out _ (HB0.out _)).mono ?_;rintro e w1 ⟨rfl,hb1⟩;go_wp2_with fail
   go_ret
   exact ⟨by rw [HL.out];rfl,(HB0.out _).trans (hb1.mono (HB0.out _).size)⟩
theorem join_eq:∀xs:List (List UInt8),Lib.join xs [32]=joinS xs
 | []=>rfl
 | [x]=>by rw [Lib.join_one];rfl
 | x::y::r=>by
  have ih:=join_eq (y::r);rw [Lib.join_cons] at ih ⊢;rw [show joinS (x::y::r)=x++32::joinS (y::r) from if_neg (by simp),←ih]
  simp [Lib.joinTail]
theorem fields_len {r:RuleP} (h:RuleRight r):∀a ∈ ruleB::ruleFs r,a.length≤30:=by
 intro a ha;simp only [ruleFs,List.mem_cons,List.not_mem_nil,or_false] at ha
 rcases ha with rfl|rfl|rfl|rfl|rfl|rfl|rfl|rfl|rfl|rfl
 ·decide
 ·exact set_len h.name
 ·obtain ⟨n,hn,h1,h2⟩:=named_nat h.frm
  rw [hn,itoa_nat];exact dec_len4 n (by omega)
 ·unfold lastT
  split
  ·decide
  ·split
   ·decide
   ·rename_i h1
    obtain ⟨n,hn,h1,h2⟩:=named_nat (h.til.resolve_right h1);rw [hn,itoa_nat];exact dec_len4 n (by omega)
 ·decide
 ·have:=monthT_len r.mon;omega
 ·have:=(day_back h.day).2.2;omega
 ·have h2:=h.hour
  simp only [clockOk,Bool.and_eq_true,decide_eq_true_eq] at h2;have:=off_len h2.1
  show (offTx r.hour.1++_).length≤30
  rw [List.length_append]
  split
  ·simp;omega
  ·split<;>simp<;>omega
 ·have:=off_len h.save;omega
 ·unfold lettT
  split
  ·decide
  ·rename_i h1
   have:=(ofB_len (h.lett.resolve_left h1)).2
   omega
theorem ruleT_len {r:RuleP} (h:RuleRight r):(ruleT r).length≤310:=joinS_len _ (fields_len h)
theorem rjoin_any (xs:List (List UInt8)) (bk c:Nat) (w:World) (hlen:(joinS xs).length≤1048576) (hx:xs.length≤100) (hc:xs.length≤c)
 (hcells:∀(j:Nat) x,xs[j]? = some x→w.cell? ⟨bk,j,none⟩=some (.string ⟨x.toArray⟩)) (hbk:bk<w.heap.size) :
 Calls Tryz.prog 7 #[.slice (some ⟨bk,0,none⟩) (xs.length:Nat) c,.string ⟨#[32]⟩] w fun e w'=>e=.returned (.string ⟨(joinS xs).toArray⟩)∧Below w.heap.size w w':=by
 have hm:(xs.map fun x=>(⟨x.toArray⟩:ByteArray)).map (·.data.toList)=xs:=by
  rw [List.map_map,show ((fun x:ByteArray=>x.data.toList) ∘ fun x:List UInt8=>(⟨x.toArray⟩:ByteArray))=id from funext fun x=>by simp,List.map_id]
 have:=Any.strings_Join Tryz.lays156 Tryz.Builder_Extra_156 bk 0 c (xs.map fun x=>⟨x.toArray⟩) ⟨#[32]⟩ w (by
  intro j x hj;rw [List.getElem?_map] at hj
  cases hy:xs[j]? with
  | none=>rw [hy] at hj;simp at hj
  | some y =>
   rw [hy] at hj;have hj:(⟨y.toArray⟩:ByteArray)=x:=by simpa using hj
   rw [←hj,Nat.zero_add];exact hcells j y hy) hbk (by simp;omega) (by simpa using hc) (by rw [hm,show (⟨#[32]⟩:ByteArray).data.toList=[32] from rfl,join_eq];omega)
 rw [hm,show (⟨#[32]⟩:ByteArray).data.toList=[32] from rfl,join_eq,List.length_map] at this;exact this
def RHeld (w:World) (g:Nat) (sn:ByteArray) (fr tl mo dk dw dd hs hb sv:Int) (sl:ByteArray) (W:World):Prop :=
 W.cell? ⟨g,0,none⟩=some (.string sn)∧W.cell? ⟨g,1,none⟩=some (.int .i64 fr)∧W.cell? ⟨g,2,none⟩=some (.int .i64 tl)∧W.cell? ⟨g,3,none⟩=some (.int .i64 mo)∧W.cell? ⟨g,4,none⟩=some (.int .i64 dk)∧W.cell? ⟨g,5,none⟩=some (.int .i64 dw)∧W.cell? ⟨g,6,none⟩=some (.int .i64 dd)∧W.cell? ⟨g,7,none⟩=some (.int .i64 hs)∧W.cell? ⟨g,8,none⟩=some (.int .i64 hb)∧W.cell? ⟨g,9,none⟩=some (.int .i64 sv)∧W.cell? ⟨g,10,none⟩=some (.string sl)∧Below w.heap.size w W
theorem RHeld.below {w W W':World} {g:Nat} {sn sl:ByteArray} {fr tl mo dk dw dd hs hb sv:Int} (h:RHeld w g sn fr tl mo dk dw dd hs hb sv sl W) (hbw:Below W.heap.size W W'):RHeld w g sn fr tl mo dk dw dd hs hb sv sl W':=by
 obtain ⟨h0,h1,h2,h3,h4,h5,h6,h7,h8,h9,h10,h11⟩:=h;have g:∀i v,W.cell? ⟨g,i,none⟩=some v→W'.cell? ⟨g,i,none⟩=some v:=fun i v hv=>(hbw.cell (block_lt_of_cell hv)).trans hv
 exact ⟨g _ _ h0,g _ _ h1,g _ _ h2,g _ _ h3,g _ _ h4,g _ _ h5,g _ _ h6,g _ _ h7,g _ _ h8,g _ _ h9,g _ _ h10,h11.trans (hbw.mono h11.size)⟩
theorem RHeld.calls {P:Program} {f:FuncId} {args:Array Value} {w W:World} {g:Nat} {sn sl:ByteArray} {fr tl mo dk dw dd hs hb sv:Int} {E:Ending} (h:RHeld w g sn fr tl mo dk dw dd hs hb sv sl W) (hc:Calls P f args W fun e w'=>e=E∧Below W.heap.size W w'):Calls P f args W fun e w'=>e=E∧RHeld w g sn fr tl mo dk dw dd hs hb sv sl w' :=
 hc.mono fun e w' ⟨he,hb⟩=>⟨he,h.below hb⟩
theorem lettT_len {l:List UInt8} (h:l.length≤1048576):(lettT l).length≤1048576:=by
 unfold lettT;split
 ·decide
 ·exact h
theorem rulePrint_any (r:RuleP) (w:World) (hT:RTabs w) (hn:r.name.length≤1048576) (hl:r.lett.length≤1048576) :
 Calls Tryz.prog 16 #[ruleV r] w fun e w'=>e=.returned (.tuple #[.string ⟨(rulePrintR r).1.toArray⟩,.int .i64 (rulePrintR r).2])∧Below w.heap.size w w':=by
 obtain ⟨nm,fr,tl,mo,⟨dk,dw,dd⟩,⟨hs,hb⟩,sv,lt⟩:=r;obtain ⟨sn,rfl⟩:∃sn:ByteArray,nm=sn.data.toList:=⟨⟨nm.toArray⟩,by simp⟩;obtain ⟨sl,rfl⟩:∃sl:ByteArray,lt=sl.data.toList:=⟨⟨lt.toArray⟩,by simp⟩;obtain ⟨R,hR⟩:∃R,rulePrintR ⟨sn.data.toList,fr,tl,mo,⟨dk,dw,dd⟩,⟨hs,hb⟩,sv,sl.data.toList⟩=R:=⟨_,rfl⟩;have HN:=hid (show ¬RuleRight ⟨sn.data.toList,fr,tl,mo,⟨dk,dw,dd⟩,⟨hs,hb⟩,sv,sl.data.toList⟩→R=([],2) from fun h=>hR ▸ if_neg fun h2=>h ((ruleOk_iff _).1 h2));have HY:=hid (show RuleRight ⟨sn.data.toList,fr,tl,mo,⟨dk,dw,dd⟩,⟨hs,hb⟩,sv,sl.data.toList⟩→R=(ruleT ⟨sn.data.toList,fr,tl,mo,⟨dk,dw,dd⟩,⟨hs,hb⟩,sv,sl.data.toList⟩,0) from fun h=>hR ▸ if_pos ((ruleOk_iff _).2 h));rw [hR];have HT:=hid (fun W (hW:Below w.heap.size w W)=>hT.below hW);have hB0:∀o,Below w.heap.size w (w.alloc o):=fun o=>(Below.refl _ _).alloc (Nat.le_refl _) o
 have HB0:=hid hB0;clear hR hB0 hT;simp only at hn hl;simp only [ruleV,RuleP.cells]
 change Calls Tryz.prog 16 #[.agg #[.string sn,.int .i64 fr,.int .i64 tl,.int .i64 mo,.int .i64 dk,.int .i64 dw,.int .i64 dd,.int .i64 hs,.int .i64 hb,.int .i64 sv,.string sl]] w _
 have HD:=hid (show (rightDay dk dw dd=true∧printR dk dw dd=(dayText dk dw dd,0))∨(¬rightDay dk dw dd=true∧printR dk dw dd=([],2)) from (Decidable.em (rightDay dk dw dd=true)).imp (fun h=>⟨h,if_pos h⟩) fun h=>⟨h,if_neg h⟩);have HC:=hid (show (clockOk hs hb=true∧clockPrintR hs hb=(clockT hs hb,0))∨(¬clockOk hs hb=true∧clockPrintR hs hb=([],2)) from (Decidable.em (clockOk hs hb=true)).imp (fun h=>⟨h,if_pos h⟩) fun h=>⟨h,if_neg h⟩);have HO:=hid (off_cases sv);have HP1:=hid (fun W (hW:RTabs W)=>print_any dk dw dd W hW.kinds hW.weeks);have HP2:=hid (fun W (hW:RTabs W)=>clockPrint_any hs hb W hW.pows);have HP3:=hid (fun W (hW:RTabs W)=>offPrint_any sv W hW.pows);obtain ⟨dt,de,hdp⟩:∃dt de,printR dk dw dd=(dt,de):=⟨_,_,rfl⟩;obtain ⟨ct,ce,hcp⟩:∃ct ce,clockPrintR hs hb=(ct,ce):=⟨_,_,rfl⟩;obtain ⟨ot,oe,hop⟩:∃ot oe,offPrintR sv=(ot,oe):=⟨_,_,rfl⟩;rw [hdp] at HD;rw [hcp] at HC;rw [hop] at HO;simp only [hdp] at HP1;simp only [hcp] at HP2;simp only [hop] at HP3;clear hdp hcp hop
 go_enter Tryz.func16,Tryz.ntmps16;go_wp2_with fail
 refine (HP1.out _ (HT.out _ (HB0.out _))).mono ?_;rintro e w1 ⟨rfl,hb1⟩;have HB1:=hid (And.intro ((Blk.new' w 55 #[.string sn,.int .i64 fr,.int .i64 tl,.int .i64 mo,.int .i64 dk,.int .i64 dw,.int .i64 dd,.int .i64 hs,.int .i64 hb,.int .i64 sv,.string sl] rfl).below hb1 (by simp)) ((HB0.out _).trans (hb1.mono (HB0.out _).size)));have c7:=HB1.out.1.cell_ (i:=7) rfl;have c8:=HB1.out.1.cell_ (i:=8) rfl;clear hb1 HB0 HP1;go_wp2_with fail
 refine (HP2.out _ (HT.out _ HB1.out.2)).mono ?_;rintro e w2 ⟨rfl,hb2⟩;have HB2:=hid (And.intro (HB1.out.1.below hb2 HB1.out.1.lt) (HB1.out.2.trans (hb2.mono HB1.out.2.size)));clear hb2 HB1 HP2 c7 c8;have c9:=HB2.out.1.cell_ (i:=9) rfl;go_wp2_with fail
 refine (HP3.out _ (HT.out _ HB2.out.2)).mono ?_;rintro e w3 ⟨rfl,hb3⟩;have HB3:=hid (And.intro (HB2.out.1.below hb3 HB2.out.1.lt) (HB2.out.2.trans (hb3.mono HB2.out.2.size)));clear hb3 HB2 HP3 c9;have c10:=HB3.out.1.cell_ (i:=10) rfl;obtain ⟨sL,hsL⟩:∃sL:ByteArray,(⟨(lettT sl.data.toList).toArray⟩:ByteArray)=sL:=⟨_,rfl⟩;have HsL:=hid (show sL.data.toList=lettT sl.data.toList by rw [←hsL]);have HsM:=hid hsL;clear hsL
 go_upto_if 32 with fail
 go_cut [10] (fun s10 wx=>s10=.string sL∧wx=w3)
 case first =>
  by_cases hlt:sl.data.toList=[]
  ·have hle:sl.toList.isEmpty=true:=by rw [Lib.toList_data,hlt];rfl
   rw [hle];go_wp2_with fail
   go_meet
   exact ⟨by rw [←HsM.out,hlt];rfl,rfl⟩
  ·have HLt:=hid (show lettT sl.data.toList=sl.data.toList from if_neg hlt)
   have hle:sl.toList.isEmpty=false:=by rw [Lib.toList_data];cases h:sl.data.toList with | nil=>exact absurd h hlt | cons a l=>rfl
   rw [hle];clear hlt;go_wp2_with fail
   go_meet
   exact ⟨by rw [←HsM.out,HLt.out],rfl⟩
 case rest =>
  obtain ⟨rfl,rfl⟩:=hcut;clear c10;have HS:=hid (fun W=>set_any sn W (by rw [size_len];exact hn));have HLe:=hid (fun W=>letter_any sL W (by rw [size_len,HsL.out];exact lettT_len hl))
  have HLx:=hid (show (sl=⟨#[]⟩∧sL=⟨#[45]⟩)∨(sl=⟨#[45]⟩∧sL=⟨#[45]⟩)∨(sl.data.toList≠[]∧sl.data.toList≠[45]∧sL=sl) by
   by_cases h0:sl.data.toList=[]
   ·exact .inl ⟨str_of h0,by rw [←HsM.out,h0];rfl⟩
   ·by_cases h1:sl.data.toList=[45]
    ·exact .inr (.inl ⟨str_of h1,by rw [←HsM.out,h1];rfl⟩)
    ·exact .inr (.inr ⟨h0,h1,by rw [←HsM.out,lettT,if_neg h0]⟩))
  clear hn hl
  go_upto_region 7 with fail
  go_cut [89] (fun s89 wx=>(s89=.bool true∧Hid (R=([],2))∨s89=.bool false∧Hid (RuleRight ⟨sn.data.toList,fr,tl,mo,⟨dk,dw,dd⟩,⟨hs,hb⟩,sv,sl.data.toList⟩))∧Blk wx w.heap.size 55 #[.string sn,.int .i64 fr,.int .i64 tl,.int .i64 mo,.int .i64 dk,.int .i64 dw,.int .i64 dd,.int .i64 hs,.int .i64 hb,.int .i64 sv,.string sl]∧Below w.heap.size w wx)
  case first =>
   rcases HD.out with ⟨hd,he⟩|⟨hd,he⟩
   case inr =>
    obtain ⟨rfl,rfl⟩:=Prod.mk.inj he;have HR:=hid (HN.out fun h=>hd h.day);clear hd he HD HC HO HN HY HS HLe HLx HT;go_wp2_with fail
    go_meet
    exact ⟨.inl ⟨rfl,HR⟩,HB3.out⟩
   obtain ⟨hdt,rfl⟩:=Prod.mk.inj he;have HD1:=hid (And.intro hd hdt);clear hd he hdt HD
   rcases HC.out with ⟨hd,he⟩|⟨hd,he⟩
   case inr =>
    obtain ⟨rfl,rfl⟩:=Prod.mk.inj he;have HR:=hid (HN.out fun h=>hd h.hour);clear hd he HC HO HN HY HS HLe HLx HT;go_wp2_with fail
    go_meet
    exact ⟨.inl ⟨rfl,HR⟩,HB3.out⟩
   obtain ⟨hdt,rfl⟩:=Prod.mk.inj he;have HC1:=hid (And.intro hd hdt);clear hd he hdt HC
   rcases HO.out with ⟨hd,he⟩|⟨hd,he⟩
   case inr =>
    obtain ⟨rfl,rfl⟩:=Prod.mk.inj he;have HR:=hid (HN.out fun h=>hd h.save);clear hd he HO HN HY HS HLe HLx HT;go_wp2_with fail
    go_meet
    exact ⟨.inl ⟨rfl,HR⟩,HB3.out⟩
   obtain ⟨hdt,rfl⟩:=Prod.mk.inj he;have HO1:=hid (And.intro hd hdt);clear hd he hdt HO;have c0:=HB3.out.1.cell_ (i:=0) rfl;go_wp2_with fail
   refine (HS.out _).mono ?_;rintro e w4 ⟨rfl,hb4⟩;have HB4:=hid (And.intro (HB3.out.1.below hb4 HB3.out.1.lt) (HB3.out.2.trans (hb4.mono HB3.out.2.size)));clear hb4 HB3 c0 HS
   cases hset:setB sn.data.toList
   case false =>
    have HR:=hid (HN.out fun h=>Bool.noConfusion (hset.symm.trans h.name));clear hset HN HY HLe HLx HT HD1 HC1 HO1;go_wp2_with fail
    go_meet
    exact ⟨.inl ⟨rfl,HR⟩,HB4.out⟩
   have HSet:=hid hset;clear hset;have c1:=HB4.out.1.cell_ (i:=1) rfl;go_wp2_with fail
   refine (named_any fr _).mono ?_;rintro e w5 ⟨rfl,rfl⟩
   cases hfr:namedB fr
   case false =>
    have HR:=hid (HN.out fun h=>Bool.noConfusion (hfr.symm.trans h.frm));clear hfr HN HY HLe HLx HT HD1 HC1 HO1;go_wp2_with fail
    go_meet
    exact ⟨.inl ⟨rfl,HR⟩,HB4.out⟩
   have HFr:=hid hfr;clear hfr c1;have c2:=HB4.out.1.cell_ (i:=2) rfl;have c3:=HB4.out.1.cell_ (i:=3) rfl;go_wp2_with fail
   refine (named_any tl _).mono ?_;rintro e w5 ⟨rfl,rfl⟩
   by_cases htl:namedB tl=true∨tl=1048576
   case neg =>
    have HR:=hid (HN.out fun h=>htl h.til);have ht1:namedB tl=false:=by cases h:namedB tl with | false=>rfl | true=>exact absurd (.inl h) htl
    have ht2:(tl != 1048576)=true:=by rw [bne_iff_ne];exact fun h=>htl (.inr h)
    rw [ht1];clear htl HN HY HLe HLx HT HD1 HC1 HO1 ht1;go_wp2_with fail
    go_meet
    exact ⟨.inl ⟨rfl,HR⟩,HB4.out⟩
   have HTl:=hid htl;have HTx:=hid (show namedB tl=true∨(namedB tl=false∧tl=1048576) by cases h:namedB tl with | true=>exact .inl rfl | false=>exact .inr ⟨rfl,htl.resolve_left (by rw [h];decide)⟩);clear htl
   by_cases hmo:1≤mo∧mo≤12
   case neg =>
    have HR:=hid (HN.out fun h=>hmo h.mon);clear HN HY HLe HLx HT HD1 HC1 HO1
    rcases HTx.out with h|⟨h,rfl⟩
    all_goals
     rw [h];clear h HTx
     rcases (by omega:mo<1∨(¬mo<1∧12<mo)) with hm|⟨hm,hm2⟩
     all_goals
      clear hmo;go_wp2_with fail
      go_meet
      exact ⟨.inl ⟨rfl,HR⟩,HB4.out⟩
   obtain ⟨hm1,hm2⟩:=hmo;have c10:=HB4.out.1.cell_ (i:=10) rfl;have HRR:=hid (show (sl.data.toList=[]∨ofB 1 4 1 sl.data.toList=true)→RuleRight ⟨sn.data.toList,fr,tl,mo,⟨dk,dw,dd⟩,⟨hs,hb⟩,sv,sl.data.toList⟩ from fun h=>⟨HD1.out.1,HC1.out.1,HO1.out.1,HSet.out,HFr.out,HTl.out,⟨hm1,hm2⟩,h⟩);have hm3:¬mo<1:=by omega
   have hm4:¬12<mo:=by omega
   clear hm1 hm2 HD1 HC1 HO1 HSet HFr HTl HT HY
   rcases HTx.out with h|⟨h,rfl⟩
   all_goals
    rw [h];clear h HTx
    rcases HLx.out with ⟨rfl,rfl⟩|⟨rfl,rfl⟩|⟨hl0,hl1,rfl⟩
    ·have HR2:=hid (HRR.out (.inl rfl))
     clear HLx HRR HsL HsM;go_wp2_with fail
     go_meet
     exact ⟨.inr ⟨by simp [hm3,hm4],HR2⟩,HB4.out⟩
    ·have HR:=hid (HN.out fun h=>by rcases h.lett with h|h;exact absurd (show ([45]:List UInt8)=[] from h) (by decide);exact absurd (show ofB 1 4 1 [45]=true from h) (by decide))
     clear HLx HRR HsL HsM;go_wp2_with fail
     go_meet
     exact ⟨.inl ⟨rfl,HR⟩,HB4.out⟩
    ·have hne:(sL.toList==[45])=false:=str_ne hl1
     go_wp2_with fail
     refine (HLe.out _).mono ?_;rintro e w6 ⟨rfl,hb6⟩;have HB6:=hid (And.intro (HB4.out.1.below hb6 HB4.out.1.lt) (HB4.out.2.trans (hb6.mono HB4.out.2.size)));clear hb6 HB4 c2 c3 c10 HLe;have c10:=HB6.out.1.cell_ (i:=10) rfl
     cases hlx:ofB 1 4 1 sL.data.toList
     ·have HR:=hid (HN.out fun h=>by rcases h.lett with h|h;exact absurd h hl0;exact Bool.noConfusion (hlx.symm.trans h))
      clear HLx HRR HsL HsM hl0 hl1 hlx;go_wp2_with fail
      go_meet
      exact ⟨.inl ⟨rfl,HR⟩,HB6.out⟩
     ·have HR2:=hid (HRR.out (.inr hlx))
      clear HLx HRR HsL HsM hl0 hl1 hlx;go_wp2_with fail
      go_meet
      exact ⟨.inr ⟨by simp [hm3,hm4],HR2⟩,HB6.out⟩
  case rest =>
   obtain ⟨hv,hB,hBw⟩:=hcut
   rcases hv with ⟨rfl,HR⟩|⟨rfl,HR⟩
   ·have HBw:=hid hBw
    clear hB hBw HN HY HT HD HC HO HS HLe HLx;go_wp2_with fail
    go_ret2
    exact ⟨by rw [HR.out];rfl,HBw.out⟩
   ·have HF:=hid (show dt=dayText dk dw dd∧ct=clockT hs hb∧ot=offTx sv from
     ⟨by rcases HD.out with ⟨_,h⟩|⟨h,_⟩;exact (Prod.mk.inj h).1;exact absurd HR.out.day h,by rcases HC.out with ⟨_,h⟩|⟨h,_⟩;exact (Prod.mk.inj h).1;exact absurd HR.out.hour h,by rcases HO.out with ⟨_,h⟩|⟨h,_⟩;exact (Prod.mk.inj h).1;exact absurd HR.out.save h⟩)
    have hfr:=of_decide_eq_true HR.out.frm;have hmo:=HR.out.mon;simp only at hfr hmo;have HI:=hid (show ∀W,RHeld w w.heap.size sn fr tl mo dk dw dd hs hb sv sl W→Calls Tryz.prog 35 #[.int .i64 fr] W fun e w'=>e=.returned (.string ⟨(Lib.itoa fr).toArray⟩)∧RHeld w w.heap.size sn fr tl mo dk dw dd hs hb sv sl w' from fun W h=>h.calls (itoa_any fr W (HT.out W h.2.2.2.2.2.2.2.2.2.2.2).pows (by omega) (by omega)));have HLa:=hid (show ∀W,RHeld w w.heap.size sn fr tl mo dk dw dd hs hb sv sl W→Calls Tryz.prog 36 #[.agg #[.string sn,.int .i64 fr,.int .i64 tl,.int .i64 mo,.int .i64 dk,.int .i64 dw,.int .i64 dd,.int .i64 hs,.int .i64 hb,.int .i64 sv,.string sl]] W fun e w'=>e=.returned (.string ⟨(lastT fr tl).toArray⟩)∧RHeld w w.heap.size sn fr tl mo dk dw dd hs hb sv sl w' from fun W h=>h.calls (rulast_any ⟨sn.data.toList,fr,tl,mo,⟨dk,dw,dd⟩,⟨hs,hb⟩,sv,sl.data.toList⟩ W (HT.out W h.2.2.2.2.2.2.2.2.2.2.2).pows HR.out.til));have HMo:=hid (show ∀W,RHeld w w.heap.size sn fr tl mo dk dw dd hs hb sv sl W→Calls Tryz.prog 37 #[.int .i64 mo] W fun e w'=>e=.returned (.string ⟨(monthT mo).toArray⟩)∧RHeld w w.heap.size sn fr tl mo dk dw dd hs hb sv sl w' from fun W h=>h.calls (monthText_any mo W (HT.out W h.2.2.2.2.2.2.2.2.2.2.2).months (by omega) (by omega)));have HRF:=hid (show R=(joinS [ruleB,sn.data.toList,Lib.itoa fr,lastT fr tl,[45],monthT mo,dt,ct,ot,sL.data.toList],0) by rw [HY.out HR.out,HF.out.1,HF.out.2.1,HF.out.2.2,HsL.out];rfl)
    have HLn:=hid (show (joinS [ruleB,sn.data.toList,Lib.itoa fr,lastT fr tl,[45],monthT mo,dt,ct,ot,sL.data.toList]).length≤1048576 by
     have h1:=HRF.out;rw [HY.out HR.out] at h1;rw [←(Prod.mk.inj h1).1];have:=ruleT_len HR.out
     omega)
    clear hfr hmo;generalize Lib.itoa fr=t1 at *;generalize lastT fr tl=t2 at *;generalize monthT mo=t3 at *;obtain ⟨q0,q1,q2,q3,q4,q5,q6,q7,q8,q9,q10⟩:wc.cell? ⟨w.heap.size,0,none⟩=some (.string sn)∧wc.cell? ⟨w.heap.size,1,none⟩=some (.int .i64 fr)∧wc.cell? ⟨w.heap.size,2,none⟩=some (.int .i64 tl)∧wc.cell? ⟨w.heap.size,3,none⟩=some (.int .i64 mo)∧wc.cell? ⟨w.heap.size,4,none⟩=some (.int .i64 dk)∧wc.cell? ⟨w.heap.size,5,none⟩=some (.int .i64 dw)∧wc.cell? ⟨w.heap.size,6,none⟩=some (.int .i64 dd)∧wc.cell? ⟨w.heap.size,7,none⟩=some (.int .i64 hs)∧wc.cell? ⟨w.heap.size,8,none⟩=some (.int .i64 hb)∧wc.cell? ⟨w.heap.size,9,none⟩=some (.int .i64 sv)∧wc.cell? ⟨w.heap.size,10,none⟩=some (.string sl):=⟨hB.cell_ rfl,hB.cell_ rfl,hB.cell_ rfl,hB.cell_ rfl,hB.cell_ rfl,hB.cell_ rfl,hB.cell_ rfl,hB.cell_ rfl,hB.cell_ rfl,hB.cell_ rfl,hB.cell_ rfl⟩;clear hB HN HY HD HC HO HS HLe HLx HF HR HsL HsM HT;go_wp2_with fail
    go_region_held3 (fun w'=>w'.cell? ⟨w.heap.size,0,none⟩=some (.string sn)∧w'.cell? ⟨w.heap.size,1,none⟩=some (.int .i64 fr)∧w'.cell? ⟨w.heap.size,2,none⟩=some (.int .i64 tl)∧w'.cell? ⟨w.heap.size,3,none⟩=some (.int .i64 mo)∧w'.cell? ⟨w.heap.size,4,none⟩=some (.int .i64 dk)∧w'.cell? ⟨w.heap.size,5,none⟩=some (.int .i64 dw)∧w'.cell? ⟨w.heap.size,6,none⟩=some (.int .i64 dd)∧w'.cell? ⟨w.heap.size,7,none⟩=some (.int .i64 hs)∧w'.cell? ⟨w.heap.size,8,none⟩=some (.int .i64 hb)∧w'.cell? ⟨w.heap.size,9,none⟩=some (.int .i64 sv)∧w'.cell? ⟨w.heap.size,10,none⟩=some (.string sl)∧Below w.heap.size w w')
     ((repeat' apply And.intro)<;>(repeat (first|(with_reducible assumption)|(with_reducible refine rcell_drew ?_)|(with_reducible refine rcell_alloc ?_ _)|(with_reducible refine Below.drew ?_)|(with_reducible refine rbelow_alloc ?_ _))))
     (first|((go_at_call 35;refine (HI.out _ (by exact ⟨by first|(with_reducible assumption)|exact rcell_drew (by with_reducible assumption),by first|(with_reducible assumption)|exact rcell_drew (by with_reducible assumption),by first|(with_reducible assumption)|exact rcell_drew (by with_reducible assumption),by first|(with_reducible assumption)|exact rcell_drew (by with_reducible assumption),by first|(with_reducible assumption)|exact rcell_drew (by with_reducible assumption),by first|(with_reducible assumption)|exact rcell_drew (by with_reducible assumption),by first|(with_reducible assumption)|exact rcell_drew (by with_reducible assumption),by first|(with_reducible assumption)|exact rcell_drew (by with_reducible assumption),by first|(with_reducible assumption)|exact rcell_drew (by with_reducible assumption),by first|(with_reducible assumption)|exact rcell_drew (by with_reducible assumption),by first|(with_reducible assumption)|exact rcell_drew (by with_reducible assumption),by first|(with_reducible assumption)|exact Below.drew (by with_reducible assumption)⟩)).mono ?_;rintro e w7 ⟨rfl,d0,d1,d2,d3,d4,d5,d6,d7,d8,d9,d10,d11⟩))|((go_at_call 36;refine (HLa.out _ (by exact ⟨by first|(with_reducible assumption)|exact rcell_drew (by with_reducible assumption),by first|(with_reducible assumption)|exact rcell_drew (by with_reducible assumption),by first|(with_reducible assumption)|exact rcell_drew (by with_reducible assumption),by first|(with_reducible assumption)|exact rcell_drew (by with_reducible assumption),by first|(with_reducible assumption)|exact rcell_drew (by with_reducible assumption),by first|(with_reducible assumption)|exact rcell_drew (by with_reducible assumption),by first|(with_reducible assumption)|exact rcell_drew (by with_reducible assumption),by first|(with_reducible assumption)|exact rcell_drew (by with_reducible assumption),by first|(with_reducible assumption)|exact rcell_drew (by with_reducible assumption),by first|(with_reducible assumption)|exact rcell_drew (by with_reducible assumption),by first|(with_reducible assumption)|exact rcell_drew (by with_reducible assumption),by first|(with_reducible assumption)|exact Below.drew (by with_reducible assumption)⟩)).mono ?_;rintro e w8 ⟨rfl,d0,d1,d2,d3,d4,d5,d6,d7,d8,d9,d10,d11⟩))|((go_at_call 37;refine (HMo.out _ (by exact ⟨by first|(with_reducible assumption)|exact rcell_drew (by with_reducible assumption),by first|(with_reducible assumption)|exact rcell_drew (by with_reducible assumption),by first|(with_reducible assumption)|exact rcell_drew (by with_reducible assumption),by first|(with_reducible assumption)|exact rcell_drew (by with_reducible assumption),by first|(with_reducible assumption)|exact rcell_drew (by with_reducible assumption),by first|(with_reducible assumption)|exact rcell_drew (by with_reducible assumption),by first|(with_reducible assumption)|exact rcell_drew (by with_reducible assumption),by first|(with_reducible assumption)|exact rcell_drew (by with_reducible assumption),by first|(with_reducible assumption)|exact rcell_drew (by with_reducible assumption),by first|(with_reducible assumption)|exact rcell_drew (by with_reducible assumption),by first|(with_reducible assumption)|exact rcell_drew (by with_reducible assumption),by first|(with_reducible assumption)|exact Below.drew (by with_reducible assumption)⟩)).mono ?_;rintro e w9 ⟨rfl,d0,d1,d2,d3,d4,d5,d6,d7,d8,d9,d10,d11⟩))|((go_at_call 7;refine (RHeld.calls (w:=w) (g:=w.heap.size) (sn:=sn) (fr:=fr) (tl:=tl) (mo:=mo) (dk:=dk) (dw:=dw) (dd:=dd) (hs:=hs) (hb:=hb) (sv:=sv) (sl:=sl) (by exact ⟨rcell_alloc (by with_reducible assumption) _,rcell_alloc (by with_reducible assumption) _,rcell_alloc (by with_reducible assumption) _,rcell_alloc (by with_reducible assumption) _,rcell_alloc (by with_reducible assumption) _,rcell_alloc (by with_reducible assumption) _,rcell_alloc (by with_reducible assumption) _,rcell_alloc (by with_reducible assumption) _,rcell_alloc (by with_reducible assumption) _,rcell_alloc (by with_reducible assumption) _,rcell_alloc (by with_reducible assumption) _,rbelow_alloc (by with_reducible assumption) _⟩) (rjoin_any [ruleB,sn.data.toList,t1,t2,[45],t3,dt,ct,ot,sL.data.toList] _ 10 _ HLn.out (by simp) (by simp) (by exact strs_cells (Blk.new' _ _ _ rfl) _ rfl) (by simp))).mono ?_;rintro e w10 ⟨rfl,d0,d1,d2,d3,d4,d5,d6,d7,d8,d9,d10,d11⟩)))
    have HBw:=hid d11;clear d0 d1 d2 d3 d4 d5 d6 d7 d8 d9 d10 d11;go_wp2_with fail
    go_ret2
    exact ⟨by rw [HRF.out];rfl,HBw.out⟩
end Go.Proofs.YtboagmbmmoomiaaGreatDoor
