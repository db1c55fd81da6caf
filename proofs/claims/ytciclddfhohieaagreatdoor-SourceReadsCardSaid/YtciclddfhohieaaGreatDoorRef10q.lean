/-
  The reference of layer 10, reading: Parse returns what the program's function returns.
-/
import Derived.Test.YtciclddfhohieaaGreatDoorRefTen
import Derived.Test.YtciclddfhohieaaGreatDoorRuleLaw
import Derived.Test.YtciclddfhohieaaGreatDoorRelAll
import Derived.Test.YtciclddfhohieaaGreatDoorRefNine
set_option linter.unusedVariables false
set_option linter.unusedSimpArgs false
set_option maxRecDepth 100000
set_option maxHeartbeats 4000000
namespace Go.Proofs.YtciclddfhohieaaGreatDoor
open Go.RowKit
theorem r10year' (s:ByteArray) (w:World) (hs:s.size≤1048576):Calls Tryz.prog 116 #[.string s] w fun e w'=>e=.returned (.tuple #[.int .i64 (yearR s.data.toList).1,.int .i64 (yearR s.data.toList).2])∧Below w.heap.size w w':=(r10year_any s w hs).mono fun _ _ ⟨a,b⟩=>⟨a,b ▸ Below.refl _ _⟩
theorem r7SetB (s:ByteArray) (w:World) (hs:s.size≤1048576):Calls Tryz.prog 115 #[.string s] w fun e w'=>e=.returned (.bool (setB s.data.toList))∧Below w.heap.size w w':=(r7Set_any s w hs).mono fun _ _ ⟨a,b⟩=>⟨a,b ▸ Below.refl _ _⟩
theorem r7LetterB (s:ByteArray) (w:World) (hs:s.size≤1048576):Calls Tryz.prog 121 #[.string s] w fun e w'=>e=.returned (.bool (ofB 1 4 1 s.data.toList))∧Below w.heap.size w w':=(r7Letter_any s w hs).mono fun _ _ ⟨a,b⟩=>⟨a,b ▸ Below.refl _ _⟩
theorem ruleR_err {a0 a1 a2 a4 a5 a6 a7 a8:List UInt8} (k:Nat) {e:Int} (h0:∀j,j<k→(errsR a0 a1 a2 a4 a5 a6 a7 a8)[j]? = some 0) (hk:(errsR a0 a1 a2 a4 a5 a6 a7 a8)[k]? = some e) (he:e≠0):ruleR [a0,a1,a2,[45],a4,a5,a6,a7,a8]=(RuleP.none,e):=by
 have h:=firstE_at _ k e h0 hk he
 show (if ([45]:List UInt8)=[45] then (if firstE (errsR a0 a1 a2 a4 a5 a6 a7 a8)=0 then (uptoR 9 a0 a1 a2 a4 a5 a6 a7 a8,0) else (RuleP.none,firstE (errsR a0 a1 a2 a4 a5 a6 a7 a8))) else (RuleP.none,5))=_
 rw [if_pos rfl,h,if_neg he]
theorem errs_next {es:List Int} {k:Nat} (h0:∀j,j<k→es[j]? = some 0) (hk:es[k]? = some 0):∀j,j<k+1→es[j]? = some 0:=fun j hj=>by
 rcases Nat.lt_or_ge j k with h|h
 ·exact h0 j h
 ·obtain rfl:j=k:=by omega
  exact hk
theorem StrRow.at' {w:World} {b o:Nat} {ls:List (List UInt8)} (h:StrRow w b o ls) (j:Nat) (l:List UInt8) (hj:ls[j]? = some l):w.cell? ⟨b,o+j,none⟩=some (.string ⟨l.toArray⟩):=h.at_ j l hj
theorem StrRow.at0 {w:World} {b o:Nat} {ls:List (List UInt8)} (h:StrRow w b o ls) (l:List UInt8) (hj:ls[0]? = some l):w.cell? ⟨b,o,none⟩=some (.string ⟨l.toArray⟩):=h.at_ 0 l hj
structure PHeld (w:World) (b o:Nat) (ls:List (List UInt8)) (C:Array Value) (W:World):Prop where
 res:Blk W w.heap.size 84 C
 none_:Blk W (w.heap.size+1) 84 C
 row:StrRow W b o ls
 bel:Below w.heap.size w W
theorem PHeld.below {w W W':World} {b o:Nat} {ls:List (List UInt8)} {C:Array Value} (h:PHeld w b o ls C W) (hb:Below W.heap.size W W'):PHeld w b o ls C W' :=
 ⟨h.res.below hb h.res.lt,h.none_.below hb h.none_.lt,h.row.below hb,h.bel.trans (hb.mono h.bel.size)⟩
theorem PHeld.set_ {w W:World} {b o:Nat} {ls:List (List UInt8)} {C:Array Value} (h:PHeld w b o ls C W) (hbo:b<w.heap.size) {g i:Nat} (hg:w.heap.size+1<g) (v:Value):PHeld w b o ls C (W.setCell ⟨g,i,none⟩ v) :=
 ⟨h.res.far (show w.heap.size≠g by omega) v,h.none_.far (show w.heap.size+1≠g by omega) v,⟨by simpa using h.row.lt,fun j l hl=>(World.cell?_setCell_other _ _ _ _ (by simp<;>omega)).trans (h.row.at_ j l hl)⟩,h.bel.setCell (show w.heap.size≤g by omega) v⟩
theorem r10parse_bad (A:Option Addr) (n c:Nat) (w:World) (hA:n≠9∨(n=9∧∃b o,A=some ⟨b,o,none⟩∧b<w.heap.size∧∃s3:ByteArray,w.cell? ⟨b,o+3,none⟩=some (.string s3)∧s3.data.toList≠[45])) :
 Calls Tryz.prog 88 #[.slice A n c] w fun e w'=>e=.returned (.tuple #[ruleV RuleP.none,.int .i64 5])∧Below w.heap.size w w':=by
 rcases hA with hn|⟨rfl,b,o,rfl,hb,s3,hc,h3⟩
 ·have hn9:((n:Int) != 9)=true:=by rw [bne_iff_ne];omega
  clear hn
  go_enter Tryz.func88,Tryz.ntmps88;go_wp2_with fail
  refine bodyPost_ret (by simp [results,Tryz.results88,go_sem];rfl) rfl ⟨rfl,by go_grown⟩
 ·have hne:(s3.toList==[45])=false:=str_ne h3
  clear h3
  go_enter Tryz.func88,Tryz.ntmps88;go_wp2_with fail
  refine bodyPost_ret (by simp [results,Tryz.results88,go_sem];rfl) rfl ⟨rfl,by go_grown⟩
theorem r10parse_9 (b o c:Nat) (a0 a1 a2 a4 a5 a6 a7 a8:List UInt8) (w:World) (hr:StrRow w b o [a0,a1,a2,[45],a4,a5,a6,a7,a8]) (hl:∀l ∈ [a0,a1,a2,[45],a4,a5,a6,a7,a8],l.length≤1048576) :
 Calls Tryz.prog 88 #[.slice (some ⟨b,o,none⟩) 9 c] w fun e w'=>e=.returned (.tuple #[ruleV (ruleR [a0,a1,a2,[45],a4,a5,a6,a7,a8]).1,.int .i64 (ruleR [a0,a1,a2,[45],a4,a5,a6,a7,a8]).2])∧Below w.heap.size w w':=by
 obtain ⟨R,hR⟩:∃R,ruleR [a0,a1,a2,[45],a4,a5,a6,a7,a8]=R:=⟨_,rfl⟩;rw [hR];have HR:=Lib.hid hR;have hbo:=hr.lt;have hl0:(⟨a0.toArray⟩:ByteArray).size≤1048576:=hl a0 (by simp);have hl1:(⟨a1.toArray⟩:ByteArray).size≤1048576:=hl a1 (by simp);have hl2:(⟨a2.toArray⟩:ByteArray).size≤1048576:=hl a2 (by simp);have hl4:(⟨a4.toArray⟩:ByteArray).size≤1048576:=hl a4 (by simp);have hl5:(⟨a5.toArray⟩:ByteArray).size≤1048576:=hl a5 (by simp);have hl6:(⟨a6.toArray⟩:ByteArray).size≤1048576:=hl a6 (by simp);have hl7:(⟨a7.toArray⟩:ByteArray).size≤1048576:=hl a7 (by simp);have hl8:(⟨a8.toArray⟩:ByteArray).size≤1048576:=hl a8 (by simp);have HF0:=Lib.hid (show ∀W,Calls Tryz.prog 115 #[.string ⟨a0.toArray⟩] W fun e w'=>e=.returned (.bool (setB a0))∧Below W.heap.size W w' from fun W=>r7SetB _ W hl0);have HF1:=Lib.hid (show ∀W,Calls Tryz.prog 116 #[.string ⟨a1.toArray⟩] W fun e w'=>e=.returned (.tuple #[.int .i64 (yearR a1).1,.int .i64 (yearR a1).2])∧Below W.heap.size W w' from fun W=>r10year' _ W hl1);have HF2:=Lib.hid (show ∀W,Calls Tryz.prog 117 #[.string ⟨a2.toArray⟩,.int .i64 (yearR a1).1] W fun e w'=>e=.returned (.tuple #[.int .i64 (untilR a2 (yearR a1).1).1,.int .i64 (untilR a2 (yearR a1).1).2])∧Below W.heap.size W w' from fun W=>r10to_any _ _ W hl2);have HF4:=Lib.hid (show ∀W,Calls Tryz.prog 118 #[.string ⟨a4.toArray⟩] W fun e w'=>e=.returned (.tuple #[.int .i64 (wordR monthL 1 a4).1,.int .i64 (wordR monthL 1 a4).2])∧Below W.heap.size W w' from fun W=>rmonth_any _ W hl4);have HF5:=Lib.hid (show ∀W,Calls Tryz.prog 119 #[.string ⟨a5.toArray⟩] W fun e w'=>e=.returned (.tuple #[.agg #[.int .i64 (parseR a5).1.1,.int .i64 (parseR a5).1.2.1,.int .i64 (parseR a5).1.2.2],.int .i64 (parseR a5).2])∧Below W.heap.size W w' from fun W=>rparse_any _ hl5 W);have HF6:=Lib.hid (show ∀W,Calls Tryz.prog 120 #[.string ⟨a6.toArray⟩] W fun e w'=>e=.returned (.tuple #[.agg #[.int .i64 (clockR a6).1.1,.int .i64 (clockR a6).1.2],.int .i64 (clockR a6).2])∧Below W.heap.size W w' from fun W=>r6parse_any _ W hl6);have HF7:=Lib.hid (show ∀W,Calls Tryz.prog 110 #[.string ⟨a7.toArray⟩] W fun e w'=>e=.returned (.tuple #[.int .i64 (offParseR a7).1,.int .i64 (offParseR a7).2])∧Below W.heap.size W w' from fun W=>r4parse_any _ W hl7);have HF8:=Lib.hid (show ∀W,Calls Tryz.prog 121 #[.string ⟨a8.toArray⟩] W fun e w'=>e=.returned (.bool (ofB 1 4 1 a8))∧Below W.heap.size W w' from fun W=>r7LetterB _ W hl8);have HE0:=Lib.hid (show ∀j,j<0→(errsR a0 a1 a2 a4 a5 a6 a7 a8)[j]? = some 0 from fun j hj=>absurd hj (by omega));have HK0:=Lib.hid (show (errsR a0 a1 a2 a4 a5 a6 a7 a8)[0]? = some (setR a0).2 from rfl);have HK1:=Lib.hid (show (errsR a0 a1 a2 a4 a5 a6 a7 a8)[1]? = some (yearR a1).2 from rfl);have HK2:=Lib.hid (show (errsR a0 a1 a2 a4 a5 a6 a7 a8)[2]? = some (untilR a2 (yearR a1).1).2 from rfl);have HK3:=Lib.hid (show (errsR a0 a1 a2 a4 a5 a6 a7 a8)[3]? = some 0 from rfl);have HK4:=Lib.hid (show (errsR a0 a1 a2 a4 a5 a6 a7 a8)[4]? = some (wordR monthL 1 a4).2 from rfl);have HK5:=Lib.hid (show (errsR a0 a1 a2 a4 a5 a6 a7 a8)[5]? = some (parseR a5).2 from rfl);have HK6:=Lib.hid (show (errsR a0 a1 a2 a4 a5 a6 a7 a8)[6]? = some (clockR a6).2 from rfl);have HK7:=Lib.hid (show (errsR a0 a1 a2 a4 a5 a6 a7 a8)[7]? = some (offParseR a7).2 from rfl);have HK8:=Lib.hid (show (errsR a0 a1 a2 a4 a5 a6 a7 a8)[8]? = some (letterR a8).2 from rfl)
 have HOK:=Lib.hid (show (∀j,j<9→(errsR a0 a1 a2 a4 a5 a6 a7 a8)[j]? = some 0)→R=(⟨(setR a0).1,(yearR a1).1,(untilR a2 (yearR a1).1).1,(wordR monthL 1 a4).1,(parseR a5).1,(clockR a6).1,(offParseR a7).1,(letterR a8).1⟩,0) from fun h=>by
  rw [←hR]
  show (if ([45]:List UInt8)=[45] then (if firstE (errsR a0 a1 a2 a4 a5 a6 a7 a8)=0 then (uptoR 9 a0 a1 a2 a4 a5 a6 a7 a8,0) else (RuleP.none,firstE (errsR a0 a1 a2 a4 a5 a6 a7 a8))) else (RuleP.none,5))=_
  rw [if_pos rfl,if_pos (firstE_all _ 9 h rfl)]
  rfl)
 clear hl hl0 hl1 hl2 hl4 hl5 hl6 hl7 hl8 hR;generalize hy1:yearR a1=Y1 at *;obtain ⟨y1,e1⟩:=Y1;clear hy1;generalize hy1:untilR a2 y1=Y1 at *;obtain ⟨y2,e2⟩:=Y1;clear hy1;generalize hy1:wordR monthL 1 a4=Y1 at *;obtain ⟨y4,e4⟩:=Y1;clear hy1;generalize hy1:parseR a5=Y1 at *;obtain ⟨⟨dk,dw,dd⟩,e5⟩:=Y1;clear hy1;generalize hy1:clockR a6=Y1 at *;obtain ⟨⟨hs,hb⟩,e6⟩:=Y1;clear hy1;generalize hy1:offParseR a7=Y1 at *;obtain ⟨y7,e7⟩:=Y1;clear hy1;simp only at HF1 HF2 HF4 HF5 HF6 HF7 HK1 HK2 HK4 HK5 HK6 HK7 HOK;obtain ⟨C,hC⟩:∃C:Array Value,RuleP.none.cells=C:=⟨_,rfl⟩;have HC:=Lib.hid hC;have HCC:=Lib.hid (show (Tryz.prog.info? 84).map (·.size)=some C.size∧C.all (·.oneCell')=true∧C.size=11 from ⟨hC ▸ infoR _,hC ▸ RuleP.one _,hC ▸ rfl⟩);have HCl:=Lib.hid (show C=#[.string ⟨#[]⟩,.int .i64 0,.int .i64 0,.int .i64 0,.int .i64 0,.int .i64 0,.int .i64 0,.int .i64 0,.int .i64 0,.int .i64 0,.string ⟨#[]⟩] from hC.symm);clear hC;have c3:=hr.at' 3 [45] rfl
 have HH0:=Lib.hid (show PHeld w b o [a0,a1,a2,[45],a4,a5,a6,a7,a8] #[.string ⟨#[]⟩,.int .i64 0,.int .i64 0,.int .i64 0,.int .i64 0,.int .i64 0,.int .i64 0,.int .i64 0,.int .i64 0,.int .i64 0,.string ⟨#[]⟩] ((w.alloc (.cells #[.string ⟨#[]⟩,.int .i64 0,.int .i64 0,.int .i64 0,.int .i64 0,.int .i64 0,.int .i64 0,.int .i64 0,.int .i64 0,.int .i64 0,.string ⟨#[]⟩] 84)).alloc (.cells #[.string ⟨#[]⟩,.int .i64 0,.int .i64 0,.int .i64 0,.int .i64 0,.int .i64 0,.int .i64 0,.int .i64 0,.int .i64 0,.int .i64 0,.string ⟨#[]⟩] 84)) from
  ⟨(Blk.new' w _ _ rfl).alloc _,Blk.new' (w.alloc _) _ _ (by simp),(hr.below ((Below.refl _ _).alloc (Nat.le_refl _) _)).below ((Below.refl _ _).alloc (Nat.le_refl _) _),((Below.refl _ _).alloc (Nat.le_refl _) _).alloc (by simp) _⟩)
 clear hr
 go_enter Tryz.func88,Tryz.ntmps88
 go_upto_region 4 with fail
 generalize (w.alloc (.cells #[.string ⟨#[]⟩,.int .i64 0,.int .i64 0,.int .i64 0,.int .i64 0,.int .i64 0,.int .i64 0,.int .i64 0,.int .i64 0,.int .i64 0,.string ⟨#[]⟩] 84)).alloc (.cells #[.string ⟨#[]⟩,.int .i64 0,.int .i64 0,.int .i64 0,.int .i64 0,.int .i64 0,.int .i64 0,.int .i64 0,.int .i64 0,.int .i64 0,.string ⟨#[]⟩] 84)=W0 at *;rw [←HCl.out] at HH0;clear c3;have cc:W0.cell? ⟨b,o,none⟩=some (.string ⟨a0.toArray⟩):=HH0.out.row.at0 _ rfl;go_wp2_with fail
 refine (HF0.out _).mono ?_;rintro e w1 ⟨rfl,hb1⟩;have HH1:=Lib.hid (HH0.out.below hb1);clear hb1 HH0 cc HF0
 cases hset:setB a0
 ·have hs2:(setR a0).2=9:=by rw [setR,hset];rfl
  rw [hs2] at HK0;clear hset hs2;have HFin:=Lib.hid (show R=(RuleP.none,9) by rw [←HR.out];exact ruleR_err 0 HE0.out HK0.out (by decide));have Hth:=Lib.hid (show w1.there w.heap.size 0 C.size from HH1.out.res.there (Nat.le_refl _));clear HOK HR;go_wp2_with (first|(refine wpList_load_row rfl 84 (.tmp 4) rfl (w.heap.size+1) rfl 84 C (0,0) _ HH1.out.none_ Tryz.underlying84 rfl HCC.out.1 ?_)|(refine wpList_store_mid rfl 84 (.tmp 2) (.tmp 23) rfl w.heap.size 0 C rfl rfl Hth.out HCC.out.1 HCC.out.2.1 ?_))
  refine bodyPost_ret (results_cell_tmp rfl _ _ w.heap.size 84 C _ _ rfl rfl (HH1.out.res.setAll C rfl) Tryz.underlying84 rfl HCC.out.1) rfl ⟨?_,below_sets (Nat.le_refl _) _ _ _ HH1.out.bel⟩;rw [HFin.out,ruleV,HC.out]
  rfl
 have hs2:setR a0=(a0,0):=by rw [setR,hset];rfl
 rw [hs2] at HK0 HOK;clear hset hs2;have HE1:=Lib.hid (errs_next HE0.out HK0.out);have cc:w1.cell? ⟨b,o,none⟩=some (.string ⟨a0.toArray⟩):=HH1.out.row.at0 _ rfl;simp only at HOK
 go_upto_region 8 with fail
 have HG1:=Lib.hid (show Blk (w1.alloc (.cells #[.string ⟨a0.toArray⟩,.int .i64 0,.int .i64 0,.int .i64 0,.int .i64 0,.int .i64 0,.int .i64 0,.int .i64 0,.int .i64 0,.int .i64 0,.string ⟨#[]⟩] 84)) w1.heap.size 84 #[.string ⟨a0.toArray⟩,.int .i64 0,.int .i64 0,.int .i64 0,.int .i64 0,.int .i64 0,.int .i64 0,.int .i64 0,.int .i64 0,.int .i64 0,.string ⟨#[]⟩]∧w.heap.size+1<w1.heap.size∧PHeld w b o [a0,a1,a2,[45],a4,a5,a6,a7,a8] C (w1.alloc (.cells #[.string ⟨a0.toArray⟩,.int .i64 0,.int .i64 0,.int .i64 0,.int .i64 0,.int .i64 0,.int .i64 0,.int .i64 0,.int .i64 0,.int .i64 0,.string ⟨#[]⟩] 84)) from ⟨Blk.new' _ _ _ rfl,HH1.out.none_.lt,HH1.out.below ((Below.refl _ _).alloc (Nat.le_refl _) _)⟩);generalize w1.alloc (.cells #[.string ⟨a0.toArray⟩,.int .i64 0,.int .i64 0,.int .i64 0,.int .i64 0,.int .i64 0,.int .i64 0,.int .i64 0,.int .i64 0,.int .i64 0,.string ⟨#[]⟩] 84)=W1 at *;clear HH1 cc HE0 HK0;generalize w1.heap.size=gR at *;have cc:W1.cell? ⟨b,o+1,none⟩=some (.string ⟨a1.toArray⟩):=HG1.out.2.2.row.at' 1 _ rfl;go_wp2_with fail
 refine (HF1.out _).mono ?_;rintro e v1 ⟨rfl,hb1⟩;have HH1:=Lib.hid (And.intro (HG1.out.1.below hb1 HG1.out.1.lt) (And.intro (HG1.out.2.1) (HG1.out.2.2.below hb1)));clear hb1 HG1 cc HF1;have z1:=HH1.out.1.cell_ (i:=1) rfl;have q1:=HH1.out.1.frozen 1
 go_upto_region 9 with fail
 have HG1:=Lib.hid (show Blk (v1.setCell ⟨gR,1,none⟩ (.int .i64 y1)) gR 84 #[.string ⟨a0.toArray⟩,.int .i64 y1,.int .i64 0,.int .i64 0,.int .i64 0,.int .i64 0,.int .i64 0,.int .i64 0,.int .i64 0,.int .i64 0,.string ⟨#[]⟩]∧w.heap.size+1<gR∧PHeld w b o [a0,a1,a2,[45],a4,a5,a6,a7,a8] C (v1.setCell ⟨gR,1,none⟩ (.int .i64 y1)) from ⟨(HH1.out.1.set_ 1 (.int .i64 y1)),HH1.out.2.1,(HH1.out.2.2.set_ hbo HH1.out.2.1 (.int .i64 y1))⟩);generalize v1.setCell ⟨gR,1,none⟩ (.int .i64 y1)=W1 at *;clear HH1 z1 q1
 by_cases her:e1=0
 case neg =>
  have herb:(e1 != 0)=true:=by rw [bne_iff_ne];exact her
  have HX:=Lib.hid HG1.out.2.2;have HFin:=Lib.hid (show R=(RuleP.none,e1) by rw [←HR.out];exact ruleR_err 1 HE1.out HK1.out her);have Hth:=Lib.hid (show W1.there w.heap.size 0 C.size from HX.out.res.there (Nat.le_refl _));clear HOK HR;go_wp2_with (first|(refine wpList_load_row rfl 84 (.tmp 4) rfl (w.heap.size+1) rfl 84 C (0,0) _ HX.out.none_ Tryz.underlying84 rfl HCC.out.1 ?_)|(refine wpList_store_mid rfl 84 (.tmp 2) (.tmp 38) rfl w.heap.size 0 C rfl rfl Hth.out HCC.out.1 HCC.out.2.1 ?_))
  refine bodyPost_ret (results_cell_tmp rfl _ _ w.heap.size 84 C _ _ rfl rfl (HX.out.res.setAll C rfl) Tryz.underlying84 rfl HCC.out.1) rfl ⟨?_,below_sets (Nat.le_refl _) _ _ _ HX.out.bel⟩;rw [HFin.out,ruleV,HC.out]
  rfl
 subst her;have HE2:=Lib.hid (errs_next HE1.out HK1.out);clear HE1 HK1;have c2:W1.cell? ⟨b,o+2,none⟩=some (.string ⟨a2.toArray⟩):=HG1.out.2.2.row.at' 2 _ rfl;have r1:=HG1.out.1.cell_ (i:=1) rfl
 go_upto_region 11 with fail
 have HFs:=Lib.hid (show ∀W,(Blk W gR 84 #[.string ⟨a0.toArray⟩,.int .i64 y1,.int .i64 0,.int .i64 0,.int .i64 0,.int .i64 0,.int .i64 0,.int .i64 0,.int .i64 0,.int .i64 0,.string ⟨#[]⟩]∧w.heap.size+1<gR∧PHeld w b o [a0,a1,a2,[45],a4,a5,a6,a7,a8] C W)→Calls Tryz.prog 117 #[.string ⟨a2.toArray⟩,.int .i64 y1] W fun e w'=>e=.returned (.tuple #[.int .i64 y2,.int .i64 e2])∧Hid (Blk w' gR 84 #[.string ⟨a0.toArray⟩,.int .i64 y1,.int .i64 0,.int .i64 0,.int .i64 0,.int .i64 0,.int .i64 0,.int .i64 0,.int .i64 0,.int .i64 0,.string ⟨#[]⟩]∧w.heap.size+1<gR∧PHeld w b o [a0,a1,a2,[45],a4,a5,a6,a7,a8] C w')∧w'.cell? ⟨gR,2,none⟩=some (.int .i64 0)∧w'.frozen? ⟨gR,2,none⟩=false from fun W h=>(HF2.out W).mono fun e w' ⟨he,hb⟩=>⟨he,Lib.hid ⟨h.1.below hb h.1.lt,h.2.1,h.2.2.below hb⟩,(h.1.below hb h.1.lt).cell_ rfl,(h.1.below hb h.1.lt).frozen 2⟩);have HGd:=Lib.hid (And.intro (HG1.out.1) (And.intro (HG1.out.2.1) (show PHeld w b o [a0,a1,a2,[45],a4,a5,a6,a7,a8] C W1.drew from HG1.out.2.2.below (Below.refl _ _).drew)));clear HF2
 go_cut [6] (fun s6 wx=>s6=.int .i64 e2∧(Blk wx gR 84 #[.string ⟨a0.toArray⟩,.int .i64 y1,.int .i64 y2,.int .i64 0,.int .i64 0,.int .i64 0,.int .i64 0,.int .i64 0,.int .i64 0,.int .i64 0,.string ⟨#[]⟩]∧w.heap.size+1<gR∧PHeld w b o [a0,a1,a2,[45],a4,a5,a6,a7,a8] C wx))
 case first =>
  go_region_with ((go_at_call 117;refine (HFs.out _ HGd.out).mono ?_;rintro e v2 ⟨rfl,HV2,z2,q2⟩))
  all_goals
   go_wp2_with fail
   go_meet
   exact ⟨rfl,HV2.out.1.set_ 2 _,HV2.out.2.1,HV2.out.2.2.set_ hbo HV2.out.2.1 _⟩
 case rest =>
 obtain ⟨rfl,hcc⟩:=hcut;have HG2:=Lib.hid hcc;clear hcc HG1 c2 r1 HGd HFs;generalize wc=W2 at *
 by_cases her:e2=0
 case neg =>
  have herb:(e2 != 0)=true:=by rw [bne_iff_ne];exact her
  have HX:=Lib.hid HG2.out.2.2;have HFin:=Lib.hid (show R=(RuleP.none,e2) by rw [←HR.out];exact ruleR_err 2 HE2.out HK2.out her);have Hth:=Lib.hid (show W2.there w.heap.size 0 C.size from HX.out.res.there (Nat.le_refl _));clear HOK HR;go_wp2_with (first|(refine wpList_load_row rfl 84 (.tmp 4) rfl (w.heap.size+1) rfl 84 C (0,0) _ HX.out.none_ Tryz.underlying84 rfl HCC.out.1 ?_)|(refine wpList_store_mid rfl 84 (.tmp 2) (.tmp 52) rfl w.heap.size 0 C rfl rfl Hth.out HCC.out.1 HCC.out.2.1 ?_))
  refine bodyPost_ret (results_cell_tmp rfl _ _ w.heap.size 84 C _ _ rfl rfl (HX.out.res.setAll C rfl) Tryz.underlying84 rfl HCC.out.1) rfl ⟨?_,below_sets (Nat.le_refl _) _ _ _ HX.out.bel⟩;rw [HFin.out,ruleV,HC.out]
  rfl
 subst her;have HE3:=Lib.hid (errs_next HE2.out HK2.out);clear HE2 HK2;have HE4:=Lib.hid (errs_next HE3.out HK3.out);clear HE3 HK3;have cc:W2.cell? ⟨b,o+4,none⟩=some (.string ⟨a4.toArray⟩):=HG2.out.2.2.row.at' 4 _ rfl;go_wp2_with fail
 refine (HF4.out _).mono ?_;rintro e v4 ⟨rfl,hb4⟩;have HH4:=Lib.hid (And.intro (HG2.out.1.below hb4 HG2.out.1.lt) (And.intro (HG2.out.2.1) (HG2.out.2.2.below hb4)));clear hb4 HG2 cc HF4;have z3:=HH4.out.1.cell_ (i:=3) rfl;have q3:=HH4.out.1.frozen 3
 go_upto_region 15 with fail
 have HG4:=Lib.hid (show Blk (v4.setCell ⟨gR,3,none⟩ (.int .i64 y4)) gR 84 #[.string ⟨a0.toArray⟩,.int .i64 y1,.int .i64 y2,.int .i64 y4,.int .i64 0,.int .i64 0,.int .i64 0,.int .i64 0,.int .i64 0,.int .i64 0,.string ⟨#[]⟩]∧w.heap.size+1<gR∧PHeld w b o [a0,a1,a2,[45],a4,a5,a6,a7,a8] C (v4.setCell ⟨gR,3,none⟩ (.int .i64 y4)) from ⟨(HH4.out.1.set_ 3 (.int .i64 y4)),HH4.out.2.1,(HH4.out.2.2.set_ hbo HH4.out.2.1 (.int .i64 y4))⟩);generalize v4.setCell ⟨gR,3,none⟩ (.int .i64 y4)=W4 at *;clear HH4 z3 q3
 by_cases her:e4=0
 case neg =>
  have herb:(e4 != 0)=true:=by rw [bne_iff_ne];exact her
  have HX:=Lib.hid HG4.out.2.2;have HFin:=Lib.hid (show R=(RuleP.none,e4) by rw [←HR.out];exact ruleR_err 4 HE4.out HK4.out her);have Hth:=Lib.hid (show W4.there w.heap.size 0 C.size from HX.out.res.there (Nat.le_refl _));clear HOK HR;go_wp2_with (first|(refine wpList_load_row rfl 84 (.tmp 4) rfl (w.heap.size+1) rfl 84 C (0,0) _ HX.out.none_ Tryz.underlying84 rfl HCC.out.1 ?_)|(refine wpList_store_mid rfl 84 (.tmp 2) (.tmp 64) rfl w.heap.size 0 C rfl rfl Hth.out HCC.out.1 HCC.out.2.1 ?_))
  refine bodyPost_ret (results_cell_tmp rfl _ _ w.heap.size 84 C _ _ rfl rfl (HX.out.res.setAll C rfl) Tryz.underlying84 rfl HCC.out.1) rfl ⟨?_,below_sets (Nat.le_refl _) _ _ _ HX.out.bel⟩;rw [HFin.out,ruleV,HC.out]
  rfl
 subst her;have HE5:=Lib.hid (errs_next HE4.out HK4.out);clear HE4 HK4;have cc:W4.cell? ⟨b,o+5,none⟩=some (.string ⟨a5.toArray⟩):=HG4.out.2.2.row.at' 5 _ rfl;go_wp2_with fail
 refine (HF5.out _).mono ?_;rintro e v5 ⟨rfl,hb5⟩;have HH5:=Lib.hid (And.intro (HG4.out.1.below hb5 HG4.out.1.lt) (And.intro (HG4.out.2.1) (HG4.out.2.2.below hb5)));clear hb5 HG4 cc HF5;have z4:=HH5.out.1.cell_ (i:=4) rfl;have q4:=HH5.out.1.frozen 4;have z5:=HH5.out.1.cell_ (i:=5) rfl;have q5:=HH5.out.1.frozen 5;have z6:=HH5.out.1.cell_ (i:=6) rfl;have q6:=HH5.out.1.frozen 6
 go_upto_region 18 with fail
 have HG5:=Lib.hid (show Blk (((v5.setCell ⟨gR,4,none⟩ (.int .i64 dk)).setCell ⟨gR,5,none⟩ (.int .i64 dw)).setCell ⟨gR,6,none⟩ (.int .i64 dd)) gR 84 #[.string ⟨a0.toArray⟩,.int .i64 y1,.int .i64 y2,.int .i64 y4,.int .i64 dk,.int .i64 dw,.int .i64 dd,.int .i64 0,.int .i64 0,.int .i64 0,.string ⟨#[]⟩]∧w.heap.size+1<gR∧PHeld w b o [a0,a1,a2,[45],a4,a5,a6,a7,a8] C (((v5.setCell ⟨gR,4,none⟩ (.int .i64 dk)).setCell ⟨gR,5,none⟩ (.int .i64 dw)).setCell ⟨gR,6,none⟩ (.int .i64 dd)) from ⟨(((HH5.out.1.set_ 4 (.int .i64 dk)).set_ 5 (.int .i64 dw)).set_ 6 (.int .i64 dd)),HH5.out.2.1,(((HH5.out.2.2.set_ hbo HH5.out.2.1 (.int .i64 dk)).set_ hbo HH5.out.2.1 (.int .i64 dw)).set_ hbo HH5.out.2.1 (.int .i64 dd))⟩);generalize ((v5.setCell ⟨gR,4,none⟩ (.int .i64 dk)).setCell ⟨gR,5,none⟩ (.int .i64 dw)).setCell ⟨gR,6,none⟩ (.int .i64 dd)=W5 at *;clear HH5 z4 q4 z5 q5 z6 q6
 by_cases her:e5=0
 case neg =>
  have herb:(e5 != 0)=true:=by rw [bne_iff_ne];exact her
  have HX:=Lib.hid HG5.out.2.2;have HFin:=Lib.hid (show R=(RuleP.none,e5) by rw [←HR.out];exact ruleR_err 5 HE5.out HK5.out her);have Hth:=Lib.hid (show W5.there w.heap.size 0 C.size from HX.out.res.there (Nat.le_refl _));clear HOK HR;go_wp2_with (first|(refine wpList_load_row rfl 84 (.tmp 4) rfl (w.heap.size+1) rfl 84 C (0,0) _ HX.out.none_ Tryz.underlying84 rfl HCC.out.1 ?_)|(refine wpList_store_mid rfl 84 (.tmp 2) (.tmp 76) rfl w.heap.size 0 C rfl rfl Hth.out HCC.out.1 HCC.out.2.1 ?_))
  refine bodyPost_ret (results_cell_tmp rfl _ _ w.heap.size 84 C _ _ rfl rfl (HX.out.res.setAll C rfl) Tryz.underlying84 rfl HCC.out.1) rfl ⟨?_,below_sets (Nat.le_refl _) _ _ _ HX.out.bel⟩;rw [HFin.out,ruleV,HC.out]
  rfl
 subst her;have HE6:=Lib.hid (errs_next HE5.out HK5.out);clear HE5 HK5;have cc:W5.cell? ⟨b,o+6,none⟩=some (.string ⟨a6.toArray⟩):=HG5.out.2.2.row.at' 6 _ rfl;go_wp2_with fail
 refine (HF6.out _).mono ?_;rintro e v6 ⟨rfl,hb6⟩;have HH6:=Lib.hid (And.intro (HG5.out.1.below hb6 HG5.out.1.lt) (And.intro (HG5.out.2.1) (HG5.out.2.2.below hb6)));clear hb6 HG5 cc HF6;have z7:=HH6.out.1.cell_ (i:=7) rfl;have q7:=HH6.out.1.frozen 7;have z8:=HH6.out.1.cell_ (i:=8) rfl;have q8:=HH6.out.1.frozen 8
 go_upto_region 21 with fail
 have HG6:=Lib.hid (show Blk ((v6.setCell ⟨gR,7,none⟩ (.int .i64 hs)).setCell ⟨gR,8,none⟩ (.int .i64 hb)) gR 84 #[.string ⟨a0.toArray⟩,.int .i64 y1,.int .i64 y2,.int .i64 y4,.int .i64 dk,.int .i64 dw,.int .i64 dd,.int .i64 hs,.int .i64 hb,.int .i64 0,.string ⟨#[]⟩]∧w.heap.size+1<gR∧PHeld w b o [a0,a1,a2,[45],a4,a5,a6,a7,a8] C ((v6.setCell ⟨gR,7,none⟩ (.int .i64 hs)).setCell ⟨gR,8,none⟩ (.int .i64 hb)) from ⟨((HH6.out.1.set_ 7 (.int .i64 hs)).set_ 8 (.int .i64 hb)),HH6.out.2.1,((HH6.out.2.2.set_ hbo HH6.out.2.1 (.int .i64 hs)).set_ hbo HH6.out.2.1 (.int .i64 hb))⟩);generalize (v6.setCell ⟨gR,7,none⟩ (.int .i64 hs)).setCell ⟨gR,8,none⟩ (.int .i64 hb)=W6 at *;clear HH6 z7 q7 z8 q8
 by_cases her:e6=0
 case neg =>
  have herb:(e6 != 0)=true:=by rw [bne_iff_ne];exact her
  have HX:=Lib.hid HG6.out.2.2;have HFin:=Lib.hid (show R=(RuleP.none,e6) by rw [←HR.out];exact ruleR_err 6 HE6.out HK6.out her);have Hth:=Lib.hid (show W6.there w.heap.size 0 C.size from HX.out.res.there (Nat.le_refl _));clear HOK HR;go_wp2_with (first|(refine wpList_load_row rfl 84 (.tmp 4) rfl (w.heap.size+1) rfl 84 C (0,0) _ HX.out.none_ Tryz.underlying84 rfl HCC.out.1 ?_)|(refine wpList_store_mid rfl 84 (.tmp 2) (.tmp 88) rfl w.heap.size 0 C rfl rfl Hth.out HCC.out.1 HCC.out.2.1 ?_))
  refine bodyPost_ret (results_cell_tmp rfl _ _ w.heap.size 84 C _ _ rfl rfl (HX.out.res.setAll C rfl) Tryz.underlying84 rfl HCC.out.1) rfl ⟨?_,below_sets (Nat.le_refl _) _ _ _ HX.out.bel⟩;rw [HFin.out,ruleV,HC.out]
  rfl
 subst her;have HE7:=Lib.hid (errs_next HE6.out HK6.out);clear HE6 HK6;have cc:W6.cell? ⟨b,o+7,none⟩=some (.string ⟨a7.toArray⟩):=HG6.out.2.2.row.at' 7 _ rfl;go_wp2_with fail
 refine (HF7.out _).mono ?_;rintro e v7 ⟨rfl,hb7⟩;have HH7:=Lib.hid (And.intro (HG6.out.1.below hb7 HG6.out.1.lt) (And.intro (HG6.out.2.1) (HG6.out.2.2.below hb7)));clear hb7 HG6 cc HF7;have z9:=HH7.out.1.cell_ (i:=9) rfl;have q9:=HH7.out.1.frozen 9
 go_upto_region 24 with fail
 have HG7:=Lib.hid (show Blk (v7.setCell ⟨gR,9,none⟩ (.int .i64 y7)) gR 84 #[.string ⟨a0.toArray⟩,.int .i64 y1,.int .i64 y2,.int .i64 y4,.int .i64 dk,.int .i64 dw,.int .i64 dd,.int .i64 hs,.int .i64 hb,.int .i64 y7,.string ⟨#[]⟩]∧w.heap.size+1<gR∧PHeld w b o [a0,a1,a2,[45],a4,a5,a6,a7,a8] C (v7.setCell ⟨gR,9,none⟩ (.int .i64 y7)) from ⟨(HH7.out.1.set_ 9 (.int .i64 y7)),HH7.out.2.1,(HH7.out.2.2.set_ hbo HH7.out.2.1 (.int .i64 y7))⟩);generalize v7.setCell ⟨gR,9,none⟩ (.int .i64 y7)=W7 at *;clear HH7 z9 q9
 by_cases her:e7=0
 case neg =>
  have herb:(e7 != 0)=true:=by rw [bne_iff_ne];exact her
  have HX:=Lib.hid HG7.out.2.2;have HFin:=Lib.hid (show R=(RuleP.none,e7) by rw [←HR.out];exact ruleR_err 7 HE7.out HK7.out her);have Hth:=Lib.hid (show W7.there w.heap.size 0 C.size from HX.out.res.there (Nat.le_refl _));clear HOK HR;go_wp2_with (first|(refine wpList_load_row rfl 84 (.tmp 4) rfl (w.heap.size+1) rfl 84 C (0,0) _ HX.out.none_ Tryz.underlying84 rfl HCC.out.1 ?_)|(refine wpList_store_mid rfl 84 (.tmp 2) (.tmp 100) rfl w.heap.size 0 C rfl rfl Hth.out HCC.out.1 HCC.out.2.1 ?_))
  refine bodyPost_ret (results_cell_tmp rfl _ _ w.heap.size 84 C _ _ rfl rfl (HX.out.res.setAll C rfl) Tryz.underlying84 rfl HCC.out.1) rfl ⟨?_,below_sets (Nat.le_refl _) _ _ _ HX.out.bel⟩;rw [HFin.out,ruleV,HC.out]
  rfl
 subst her;have HE8:=Lib.hid (errs_next HE7.out HK7.out);clear HE7 HK7;have cc:W7.cell? ⟨b,o+8,none⟩=some (.string ⟨a8.toArray⟩):=HG7.out.2.2.row.at' 8 _ rfl
 by_cases h45:a8=[45]
 case pos =>
  have hlet:letterR a8=([],0):=if_pos h45;rw [hlet] at HK8 HOK;have heq:((⟨a8.toArray⟩:ByteArray).toList==[45])=true:=by rw [Lib.toList_data,h45];rfl
  have heq2:(a8==[45])=true:=by rw [h45];rfl
  have HFin:=Lib.hid (HOK.out (errs_next HE8.out HK8.out));clear hlet HOK HK8 HE8 h45 HR;obtain ⟨D,hD⟩:∃D:Array Value,#[.string ⟨a0.toArray⟩,.int .i64 y1,.int .i64 y2,.int .i64 y4,.int .i64 dk,.int .i64 dw,.int .i64 dd,.int .i64 hs,.int .i64 hb,.int .i64 y7,.string ⟨#[]⟩]=D:=⟨_,rfl⟩;have HD:=Lib.hid hD;have HDD:=Lib.hid (show (Tryz.prog.info? 84).map (·.size)=some D.size∧D.all (·.oneCell')=true∧D.size=11 from ⟨hD ▸ infoRule,hD ▸ (by simp [Value.oneCell']),hD ▸ rfl⟩);have HX:=Lib.hid (And.intro (show Blk W7 gR 84 D from hD ▸ HG7.out.1) (HG7.out.2.2));have Hth:=Lib.hid (show W7.there w.heap.size 0 D.size from HX.out.2.res.there (by rw [HDD.out.2.2,HCC.out.2.2];exact Nat.le_refl _));clear hD HG7;go_wp2_with (first|(refine wpList_load_row rfl 84 (.tmp 5) rfl gR rfl 84 D (0,0) _ HX.out.1 Tryz.underlying84 rfl HDD.out.1 ?_)|(refine wpList_store_mid rfl 84 (.tmp 2) (.tmp 106) rfl w.heap.size 0 D rfl rfl Hth.out HDD.out.1 HDD.out.2.1 ?_))
  refine bodyPost_ret (results_cell_tmp rfl _ _ w.heap.size 84 D _ _ rfl rfl (HX.out.2.res.setAll D (by rw [HDD.out.2.2,HCC.out.2.2])) Tryz.underlying84 rfl HDD.out.1) rfl ⟨?_,below_sets (Nat.le_refl _) _ _ _ HX.out.2.bel⟩;rw [HFin.out,←HD.out]
  rfl
 have hne:((⟨a8.toArray⟩:ByteArray).toList==[45])=false:=str_ne (s:=⟨a8.toArray⟩) h45;have hne2:(a8==[45])=false:=beq_eq_false_iff_ne.2 h45;have hlet:letterR a8=if ofB 1 4 1 a8=true then (a8,0) else ([],5):=if_neg h45
 clear h45;go_wp2_with fail
 refine (HF8.out _).mono ?_;rintro e v8 ⟨rfl,hb8⟩;have HH8:=Lib.hid (And.intro (HG7.out.1.below hb8 HG7.out.1.lt) (And.intro (HG7.out.2.1) (HG7.out.2.2.below hb8)));clear hb8 HG7 cc HF8
 cases hof:ofB 1 4 1 a8
 case false =>
  have hlet2:(letterR a8).2=5:=by rw [hlet,hof];rfl
  rw [hlet2] at HK8;clear hlet hlet2 hof;have HX:=Lib.hid HH8.out.2.2;have HFin:=Lib.hid (show R=(RuleP.none,5) by rw [←HR.out];exact ruleR_err 8 HE8.out HK8.out (by decide));have Hth:=Lib.hid (show v8.there w.heap.size 0 C.size from HX.out.res.there (Nat.le_refl _));clear HOK HR;go_wp2_with (first|(refine wpList_load_row rfl 84 (.tmp 4) rfl (w.heap.size+1) rfl 84 C (0,0) _ HX.out.none_ Tryz.underlying84 rfl HCC.out.1 ?_)|(refine wpList_store_mid rfl 84 (.tmp 2) (.tmp 112) rfl w.heap.size 0 C rfl rfl Hth.out HCC.out.1 HCC.out.2.1 ?_))
  refine bodyPost_ret (results_cell_tmp rfl _ _ w.heap.size 84 C _ _ rfl rfl (HX.out.res.setAll C rfl) Tryz.underlying84 rfl HCC.out.1) rfl ⟨?_,below_sets (Nat.le_refl _) _ _ _ HX.out.bel⟩;rw [HFin.out,ruleV,HC.out]
  rfl
 have hlet2:letterR a8=(a8,0):=by rw [hlet,hof];rfl
 rw [hlet2] at HK8 HOK;have HFin:=Lib.hid (HOK.out (errs_next HE8.out HK8.out));clear hlet hlet2 HOK HK8 HE8 hof HR;have cc:v8.cell? ⟨b,o+8,none⟩=some (.string ⟨a8.toArray⟩):=HH8.out.2.2.row.at' 8 _ rfl;have z10:=HH8.out.1.cell_ (i:=10) rfl;have q10:=HH8.out.1.frozen 10
 go_upto_region 31 with fail
 obtain ⟨D,hD⟩:∃D:Array Value,#[.string ⟨a0.toArray⟩,.int .i64 y1,.int .i64 y2,.int .i64 y4,.int .i64 dk,.int .i64 dw,.int .i64 dd,.int .i64 hs,.int .i64 hb,.int .i64 y7,.string ⟨a8.toArray⟩]=D:=⟨_,rfl⟩;have HD:=Lib.hid hD;have HDD:=Lib.hid (show (Tryz.prog.info? 84).map (·.size)=some D.size∧D.all (·.oneCell')=true∧D.size=11 from ⟨hD ▸ infoRule,hD ▸ (by simp [Value.oneCell']),hD ▸ rfl⟩);have HX:=Lib.hid (show Blk (v8.setCell ⟨gR,10,none⟩ (.string ⟨a8.toArray⟩)) gR 84 D∧PHeld w b o [a0,a1,a2,[45],a4,a5,a6,a7,a8] C (v8.setCell ⟨gR,10,none⟩ (.string ⟨a8.toArray⟩)) from ⟨hD ▸ (HH8.out.1.set_ 10 (.string ⟨a8.toArray⟩)),HH8.out.2.2.set_ hbo HH8.out.2.1 (.string ⟨a8.toArray⟩)⟩);generalize v8.setCell ⟨gR,10,none⟩ (.string ⟨a8.toArray⟩)=W8 at *;have Hth:=Lib.hid (show W8.there w.heap.size 0 D.size from HX.out.2.res.there (by rw [HDD.out.2.2,HCC.out.2.2];exact Nat.le_refl _));clear hD HH8 cc z10 q10;go_wp2_with (first|(refine wpList_load_row rfl 84 (.tmp 5) rfl gR rfl 84 D (0,0) _ HX.out.1 Tryz.underlying84 rfl HDD.out.1 ?_)|(refine wpList_store_mid rfl 84 (.tmp 2) (.tmp 117) rfl w.heap.size 0 D rfl rfl Hth.out HDD.out.1 HDD.out.2.1 ?_))
 refine bodyPost_ret (results_cell_tmp rfl _ _ w.heap.size 84 D _ _ rfl rfl (HX.out.2.res.setAll D (by rw [HDD.out.2.2,HCC.out.2.2])) Tryz.underlying84 rfl HDD.out.1) rfl ⟨?_,below_sets (Nat.le_refl _) _ _ _ HX.out.2.bel⟩;rw [HFin.out,←HD.out]
 rfl
theorem r10parse_any (b o n c:Nat) (ls:List (List UInt8)) (w:World) (hr:StrRow w b o ls) (hn:ls.length=n) (hl:∀l ∈ ls,l.length≤1048576) :
 Calls Tryz.prog 88 #[.slice (some ⟨b,o,none⟩) n c] w fun e w'=>e=.returned (.tuple #[ruleV (ruleR ls).1,.int .i64 (ruleR ls).2])∧Below w.heap.size w w':=by
 by_cases h9:n=9
 ·subst h9
  obtain ⟨a0,a1,a2,a3,a4,a5,a6,a7,a8,rfl⟩:=nine hn
  by_cases h3:a3=[45]
  ·subst h3
   exact r10parse_9 b o c a0 a1 a2 a4 a5 a6 a7 a8 w hr hl
  ·rw [show ruleR [a0,a1,a2,a3,a4,a5,a6,a7,a8]=(RuleP.none,5) from if_neg h3]
   exact r10parse_bad _ 9 c w (.inr ⟨rfl,b,o,rfl,hr.lt,⟨a3.toArray⟩,hr.at_ 3 _ rfl,h3⟩)
 ·rw [ruleR_n (by omega)]
  exact r10parse_bad _ n c w (.inl h9)
end Go.Proofs.YtciclddfhohieaaGreatDoor
