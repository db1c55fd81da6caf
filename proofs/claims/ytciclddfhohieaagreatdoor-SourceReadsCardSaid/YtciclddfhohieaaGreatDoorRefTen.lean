/-
  The references of layer 7: letter, digit, letters, Set, Letter return what the program's functions return.
  The references of layer 8 again: months, years, Month, To, MonthText.
  The reference of layer 10, small functions: digits, named, Year, to return what the program's functions return.
-/
import Derived.Test.YtciclddfhohieaaGreatDoorOffAll
import Derived.Deep.QuietTactic
import Derived.BigQuiet
import Derived.Handy
import Derived.Test.YtciclddfhohieaaGreatDoorRefNine
import Derived.Test.YtciclddfhohieaaGreatDoorRuleAll
set_option linter.unusedVariables false
set_option maxRecDepth 100000
set_option maxHeartbeats 4000000
namespace Go.Proofs.YtciclddfhohieaaGreatDoor
open Go.RowKit
def letB (c:Nat):Bool:=decide ((65≤c∧c≤90)∨(97≤c∧c≤122))
def digB (c:Nat):Bool:=decide (48≤c∧c≤57)
theorem letB_kind:∀c:Fin 256,(kindN c.val &&& 1 != 0)=letB c.val:=by decide +kernel
theorem set_kind:∀c:Fin 256,(kindN c.val &&& 15 != 0)=(letB c.val||digB c.val||decide (c.val=95)||decide (c.val=45)):=by decide +kernel
theorem letB_u8 (c:UInt8):(kindN c.toNat &&& 1 != 0)=letB c.toNat:=letB_kind ⟨c.toNat,c.toNat_lt⟩
theorem set_u8 (c:UInt8):(kindN c.toNat &&& 15 != 0)=(letB c.toNat||digB c.toNat||decide (c.toNat=95)||decide (c.toNat=45)):=set_kind ⟨c.toNat,c.toNat_lt⟩
theorem r7letter_any (c:Nat) (w:World) :
 Calls Tryz.prog 162 #[.int .u8 (c:Int)] w fun e w'=>e=.returned (.bool (letB c))∧w'=w:=by
 obtain ⟨r,hr⟩:∃r,letB c=r:=⟨_,rfl⟩;rw [hr]
 cases r with
 | true =>
  have hc:=of_decide_eq_true hr
  rcases (by omega:((65:Int)≤(c:Int)∧(c:Int)≤90)∨((65:Int)≤(c:Int)∧¬(c:Int)≤90∧(97:Int)≤(c:Int)∧(c:Int)≤122)) with ⟨h1,h2⟩|⟨h1,h2,h3,h4⟩
  all_goals
   clear hr hc
   go_enter Tryz.func162,Tryz.ntmps162;go_wp2_with fail
   go_ret
   exact ⟨rfl,rfl⟩
 | false =>
  have hc:=of_decide_eq_false hr
  rcases (by omega:(¬(65:Int)≤(c:Int)∧¬(97:Int)≤(c:Int))∨((65:Int)≤(c:Int)∧¬(c:Int)≤90∧¬(97:Int)≤(c:Int))∨((65:Int)≤(c:Int)∧¬(c:Int)≤90∧(97:Int)≤(c:Int)∧¬(c:Int)≤122)) with ⟨h1,h2⟩|⟨h1,h2,h3⟩|⟨h1,h2,h3,h4⟩
  all_goals
   clear hr hc
   go_enter Tryz.func162,Tryz.ntmps162;go_wp2_with fail
   go_ret
   exact ⟨rfl,rfl⟩
theorem r7digit_any (c:Nat) (w:World) :
 Calls Tryz.prog 163 #[.int .u8 (c:Int)] w fun e w'=>e=.returned (.bool (digB c))∧w'=w:=by
 obtain ⟨r,hr⟩:∃r,digB c=r:=⟨_,rfl⟩;rw [hr]
 cases r with
 | true =>
  have hc:=of_decide_eq_true hr;obtain ⟨h1,h2⟩:(48:Int)≤(c:Int)∧(c:Int)≤57:=by omega
  clear hr hc
  go_enter Tryz.func163,Tryz.ntmps163;go_wp2_with fail
  go_ret
  exact ⟨rfl,rfl⟩
 | false =>
  have hc:=of_decide_eq_false hr
  rcases (by omega:¬(48:Int)≤(c:Int)∨((48:Int)≤(c:Int)∧¬(c:Int)≤57)) with h1|⟨h1,h2⟩
  all_goals
   clear hr hc
   go_enter Tryz.func163,Tryz.ntmps163;go_wp2_with fail
   go_ret
   exact ⟨rfl,rfl⟩
theorem ofB_no {a b m:Nat} {s:ByteArray} {k:Nat} (hk:k<s.size) (h:(kindN (s[k]'hk).toNat &&& m != 0)=false):ofB a b m s.data.toList=false:=by
 unfold ofB;rw [Bool.and_eq_false_iff];refine Or.inr ?_;rw [List.all_eq_false];exact ⟨s[k],by simp [ByteArray.getElem_eq_getElem_data],by rw [h];decide⟩
theorem ofB_yes {a b m:Nat} {s:ByteArray} (h:∀k (hk:k<s.size),(kindN (s[k]'hk).toNat &&& m != 0)=true):ofB a b m s.data.toList=decide (a≤s.size∧s.size≤b):=by
 unfold ofB
 have:(s.data.toList.all fun c=>kindN c.toNat &&& m != 0)=true:=by
  rw [List.all_eq_true];intro c hc;obtain ⟨k,hk,he⟩:=List.mem_iff_getElem.1 hc;have hk':k<s.size:=by simpa using hk
  have:=h k hk';rw [←he]
  simpa [ByteArray.getElem_eq_getElem_data] using this
 rw [this,Bool.and_true]
 simp
theorem r7letters_any (s:ByteArray) (a b:Nat) (w:World) (hs:s.size≤1048576) (ha:a≤100) (hb:b≤100) :
 Calls Tryz.prog 171 #[.string s,.int .i64 (a:Int),.int .i64 (b:Int)] w fun e w'=>e=.returned (.bool (ofB a b 1 s.data.toList))∧w'=w:=by
 go_enter Tryz.func171,Tryz.ntmps171;go_wp2_with fail
 go_loop [7] (fun i=>∃k:Nat,k≤s.size∧i=.int .i64 (k:Int)∧Aside (∀j (hj:j<s.size),j<k→(kindN (s[j]'hj).toNat &&& 1 != 0)=true)) (fun i=>s.size-(intOf i).toNat)
 case atStart=>exact ⟨0,Nat.zero_le _,rfl,fun j _ hj=>absurd hj (by omega)⟩
 case round =>
  obtain ⟨k,hk,rfl,hall⟩:=hrel
  by_cases hlt:k<s.size
  ·obtain ⟨c,hc⟩:∃c:Nat,c=(s[k]'hlt).toNat:=⟨_,rfl⟩
   have g0:∀h,(s[k]'h).toNat=c:=fun _=>hc.symm
   have HK:=Lib.hid (show (kindN (s[k]'hlt).toNat &&& 1 != 0)=letB c by rw [letB_u8,hc]);have HN:=Lib.hid hall.out;have hd:decide (k<s.size)=true:=by simp [hlt]
   clear hall hc;obtain ⟨r,hr⟩:∃r,letB c=r:=⟨_,rfl⟩;rw [hr] at HK;have HL:=Lib.hid (fun w=>hr ▸ r7letter_any c w);clear hr
   cases r with
   | true =>
    go_wp2_with fail
    refine (HL.out _).mono ?_;rintro e w1 ⟨rfl,rfl⟩;go_wp2_with fail
    go_round
    case rel =>
     refine ⟨k+1,by omega,by go_num,fun j hj hjk=>?_⟩
     by_cases h:j=k
     ·subst h;exact HK.out
     ·exact HN.out j hj (by omega)
    case measure=>simp [intOf];omega
   | false =>
    have HF:=Lib.hid (ofB_no (a:=a) (b:=b) hlt HK.out);go_wp2_with fail
    refine (HL.out _).mono ?_;rintro e w1 ⟨rfl,rfl⟩;go_wp2_with fail
    go_ret
    exact ⟨by rw [HF.out];rfl,rfl⟩
  ·obtain rfl:k=s.size:=by omega
   have hd:decide (s.size<s.size)=false:=by simp
   have HF:=Lib.hid (ofB_yes (a:=a) (b:=b) (m:=1) (s:=s) fun j hj=>hall.out j hj hj);clear hall hlt hk
   by_cases h1:a≤s.size
   ·by_cases h2:s.size≤b
    ·have e1:decide (a≤s.size)=true:=by simp [h1]
     have e2:decide (s.size≤b)=true:=by simp [h2]
     go_wp2_with fail
     go_ret
     exact ⟨by rw [HF.out];simp [h1,h2],rfl⟩
    ·have e1:decide (a≤s.size)=true:=by simp [h1]
     have e2:decide (s.size≤b)=false:=by simp [h2]
     go_wp2_with fail
     go_ret
     exact ⟨by rw [HF.out];simp [h1,h2],rfl⟩
   ·have e1:decide (a≤s.size)=false:=by simp [h1]
    go_wp2_with fail
    go_ret
    exact ⟨by rw [HF.out];simp [h1],rfl⟩
theorem r7Letter_any (s:ByteArray) (w:World) (hs:s.size≤1048576) :
 Calls Tryz.prog 121 #[.string s] w fun e w'=>e=.returned (.bool (ofB 1 4 1 s.data.toList))∧w'=w:=by
 have HL:=Lib.hid (fun w=>r7letters_any s 1 4 w hs (by decide) (by decide))
 go_enter Tryz.func121,Tryz.ntmps121;go_wp2_with fail
 refine (HL.out _).mono ?_;rintro e w1 ⟨rfl,rfl⟩;go_wp2_with fail
 go_ret
 exact ⟨rfl,rfl⟩
theorem setB_first {s:ByteArray} (h:0<s.size):ofB 1 1 1 (s.data.toList.take 1)=letB (s[0]'h).toNat:=by
 obtain ⟨l,rfl⟩:∃l:List UInt8,s=⟨l.toArray⟩:=⟨s.data.toList,by simp⟩
 cases l with
 | nil=>exact absurd h (by decide)
 | cons c l =>
  show ofB 1 1 1 [c]=letB c.toNat
  simp only [ofB,List.length_singleton,List.all_cons,List.all_nil,Bool.and_true,letB_u8]
  simp
theorem r7Set_any (s:ByteArray) (w:World) (hs:s.size≤1048576) :
 Calls Tryz.prog 115 #[.string s] w fun e w'=>e=.returned (.bool (setB s.data.toList))∧w'=w:=by
 by_cases h1:1≤s.size∧s.size≤30
 ·obtain ⟨h1,h30⟩:=h1
  have z1:¬(s.size:Int)<1:=by omega
  have z30:¬30<(s.size:Int):=by omega
  obtain ⟨c0,hc0⟩:∃c:Nat,c=(s[0]'(by omega)).toNat:=⟨_,rfl⟩;have g00:∀h,(s[0]'h).toNat=c0:=fun _=>hc0.symm
  have hS:setB s.data.toList=(ofB 1 30 15 s.data.toList&&letB c0):=by rw [setB,setB_first (by omega),hc0]
  obtain ⟨r,hr⟩:∃r,letB c0=r:=⟨_,rfl⟩;have HL:=Lib.hid (fun w=>hr ▸ r7letter_any c0 w);rw [hr] at hS;have HS:=Lib.hid hS;have hi0:(0:Int)<(s.size:Int):=by omega
  clear hr hS hc0
  cases r with
  | false =>
   go_enter Tryz.func115,Tryz.ntmps115;go_wp2_with fail
   refine (HL.out _).mono ?_;rintro e w1 ⟨rfl,rfl⟩;go_wp2_with fail
   go_ret
   exact ⟨by rw [HS.out];simp,rfl⟩
  | true =>
   go_enter Tryz.func115,Tryz.ntmps115;go_wp2_with fail
   refine (HL.out _).mono ?_;rintro e w1 ⟨rfl,rfl⟩;go_wp2_with fail
   clear g00 hi0
   go_loop [3] (fun i=>∃k:Nat,k≤s.size∧i=.int .i64 (k:Int)∧Aside (∀j (hj:j<s.size),j<k→(kindN (s[j]'hj).toNat &&& 15 != 0)=true)) (fun i=>s.size-(intOf i).toNat)
   case atStart=>exact ⟨0,Nat.zero_le _,rfl,fun j _ hj=>absurd hj (by omega)⟩
   case round =>
    obtain ⟨k,hk,rfl,hall⟩:=hrel
    by_cases hlt:k<s.size
    ·obtain ⟨c,hc⟩:∃c:Nat,c=(s[k]'hlt).toNat:=⟨_,rfl⟩
     have g0:∀h,(s[k]'h).toNat=c:=fun _=>hc.symm
     have HK:=Lib.hid (show (kindN (s[k]'hlt).toNat &&& 15 != 0)=(letB c||digB c||decide (c=95)||decide (c=45)) by rw [set_u8,hc]);have HN:=Lib.hid hall.out;have hd:decide (k<s.size)=true:=by simp [hlt]
     clear hall hc;obtain ⟨r,hr⟩:∃r,letB c=r:=⟨_,rfl⟩;obtain ⟨q,hq⟩:∃r,digB c=r:=⟨_,rfl⟩;rw [hr,hq] at HK;have HL:=Lib.hid (fun w=>hr ▸ r7letter_any c w);have HD:=Lib.hid (fun w=>hq ▸ r7digit_any c w)
     have hne1:((c:Int) != 95) = !decide (c=95):=by
      by_cases h:c=95
      ·subst h;rfl
      ·rw [decide_eq_false h];show ((c:Int) != 95)=true;rw [bne_iff_ne];omega
     have hne2:((c:Int) != 45) = !decide (c=45):=by
      by_cases h:c=45
      ·subst h;rfl
      ·rw [decide_eq_false h];show ((c:Int) != 45)=true;rw [bne_iff_ne];omega
     clear hr hq;generalize decide (c=95)=p1 at *;generalize decide (c=45)=p2 at *
     cases r<;>cases q<;>cases p1<;>cases p2
     all_goals
      simp only [Bool.not_true,Bool.not_false] at hne1 hne2;go_wp2_with (first|(go_at_call 162;refine (HL.out _).mono ?_;rintro e w1 ⟨rfl,rfl⟩)|(go_at_call 163;refine (HD.out _).mono ?_;rintro e w1 ⟨rfl,rfl⟩)|fail)
      first
       | (go_ret
          exact ⟨by rw [HS.out,ofB_no hlt HK.out];rfl,rfl⟩)
       | (go_round
          case rel =>
           refine ⟨k+1,by omega,by go_num,fun j hj hjk=>?_⟩
           by_cases h:j=k
           ·subst h;exact HK.out
           ·exact HN.out j hj (by omega)
          case measure=>simp [intOf];omega)
    ·obtain rfl:k=s.size:=by omega
     have hd:decide (s.size<s.size)=false:=by simp
     have HF:=Lib.hid (ofB_yes (a:=1) (b:=30) (m:=15) (s:=s) fun j hj=>hall.out j hj hj);have hT:setB s.data.toList=true:=by rw [HS.out,HF.out];simp [h1,h30]
     have HT:=Lib.hid hT;clear hall hlt hk hT;go_wp2_with fail
     go_ret
     exact ⟨by rw [HT.out];rfl,rfl⟩
 ·have hS:setB s.data.toList=false:=by
   unfold setB ofB;rw [decide_eq_false (by simpa using h1)]
   rfl
  have HS:=Lib.hid hS;clear hS
  rcases (by omega:(s.size:Int)<1∨(¬(s.size:Int)<1∧30<(s.size:Int))) with h|⟨h,h2⟩
  all_goals
   clear h1
   go_enter Tryz.func115,Tryz.ntmps115;go_wp2_with fail
   go_ret
   exact ⟨by rw [HS.out];rfl,rfl⟩
def monthsO:Obj:=.cells #[.string ⟨#[106,97,110,117,97,114,121]⟩,.string ⟨#[102,101,98,114,117,97,114,121]⟩,.string ⟨#[109,97,114,99,104]⟩,.string ⟨#[97,112,114,105,108]⟩,.string ⟨#[109,97,121]⟩,.string ⟨#[106,117,110,101]⟩,.string ⟨#[106,117,108,121]⟩,.string ⟨#[97,117,103,117,115,116]⟩,.string ⟨#[115,101,112,116,101,109,98,101,114]⟩,.string ⟨#[111,99,116,111,98,101,114]⟩,.string ⟨#[110,111,118,101,109,98,101,114]⟩,.string ⟨#[100,101,99,101,109,98,101,114]⟩] 9
def yearsO:Obj:=.cells #[.string ⟨#[111,110,108,121]⟩,.string ⟨#[109,97,120,105,109,117,109]⟩] 9
theorem rmonths_any (w:World):Calls Tryz.prog 165 #[] w fun e w'=>e=.returned (.slice (some ⟨w.heap.size,0,none⟩) 12 12)∧w'=w.alloc monthsO:=by
 go_enter Tryz.func165,Tryz.ntmps165
 go_wp2
 go_ret
 exact ⟨rfl,rfl⟩
theorem ryears_any (w:World):Calls Tryz.prog 195 #[] w fun e w'=>e=.returned (.slice (some ⟨w.heap.size,0,none⟩) 2 2)∧w'=w.alloc yearsO:=by
 go_enter Tryz.func195,Tryz.ntmps195
 go_wp2
 go_ret
 exact ⟨rfl,rfl⟩
theorem litrow_cell (w:World) (t:TypeId) (ls:List (List UInt8)) (j:Nat) (l:List UInt8) (hl:ls[j]? = some l):(w.alloc (.cells (ls.map fun l=>Value.string ⟨l.toArray⟩).toArray t)).cell? ⟨w.heap.size,j,none⟩=some (.string ⟨l.toArray⟩):=by
 refine (Blk.new' w t _ rfl).cell_ ?_
 simp [hl]
theorem monthsO_cell (w:World) (j:Nat) (l:List UInt8) (hl:monthL[j]? = some l):(w.alloc monthsO).cell? ⟨w.heap.size,j,none⟩=some (.string ⟨l.toArray⟩):=litrow_cell w _ monthL j l hl
theorem yearsO_cell (w:World) (j:Nat) (l:List UInt8) (hl:toL[j]? = some l):(w.alloc yearsO).cell? ⟨w.heap.size,j,none⟩=some (.string ⟨l.toArray⟩):=litrow_cell w _ toL j l hl
def moreR (n e:Int):Int × Int:=if e=0 then (n+1,0) else (0,e)
theorem rmore_any (n e:Int) (w:World) (hn:0≤n∧n≤100) :
 Calls Tryz.prog 87 #[.int .i64 n,.int .i64 e] w fun e' w'=>e'=.returned (.tuple #[.int .i64 (moreR n e).1,.int .i64 (moreR n e).2])∧w'=w:=by
 obtain ⟨h0,h1⟩:=hn
 by_cases h:e=0
 ·subst h
  go_enter Tryz.func87,Tryz.ntmps87;go_wp2_with fail
  go_ret2
  exact ⟨rfl,rfl⟩
 ·have hb:(e != 0)=true:=by rw [bne_iff_ne];exact h
  have HM:=Lib.hid (show moreR n e=(0,e) from if_neg h);clear h
  go_enter Tryz.func87,Tryz.ntmps87;go_wp2_with fail
  go_ret2
  exact ⟨by rw [HM.out];rfl,rfl⟩
theorem more_find (ws:List (List UInt8)) (s:List UInt8) (hl:ws.length≤100):moreR (findRR ws s).1 (findRR ws s).2=wordR ws 1 s∧0≤(findRR ws s).1∧(findRR ws s).1≤100:=by
 have hlt:(wordF ws s).2=true→(wordF ws s).1<ws.length:=wordF_found;have hF:findRR ws s=if (wordF ws s).2=true then (((wordF ws s).1:Int),0) else (0,8):=rfl
 rw [hF];unfold wordR
 split
 ·rename_i h
  have:=hlt h;exact ⟨by simp [moreR];omega,by simp only;omega,by simp only;omega⟩
 ·exact ⟨by simp [moreR],by simp,by simp⟩
theorem rmonth_any (s:ByteArray) (w:World) (hs:s.size≤1048576) :
 Calls Tryz.prog 118 #[.string s] w fun e w'=>e=.returned (.tuple #[.int .i64 (wordR monthL 1 s.data.toList).1,.int .i64 (wordR monthL 1 s.data.toList).2])∧Below w.heap.size w w':=by
 have HF:=Lib.hid (rfind_any w.heap.size 12 monthL s (w.alloc monthsO) (monthsO_cell w) (by simp) (by decide) (by decide) hs);have hm:=more_find monthL s.data.toList (by decide);have HW:=Lib.hid hm.1;have hbd:=hm.2;clear hm;generalize wordR monthL 1 s.data.toList=R at *;generalize findRR monthL s.data.toList=F at *;obtain ⟨f1,f2⟩:=F;simp only at HF HW hbd;have HM:=Lib.hid (fun w=>rmore_any f1 f2 w hbd)
 go_enter Tryz.func118,Tryz.ntmps118;go_wp2_with fail
 refine (rmonths_any w).mono ?_;rintro e w1 ⟨rfl,rfl⟩;go_wp2_with fail
 refine HF.out.mono ?_;rintro e w1 ⟨rfl,hb⟩;have HB:=Lib.hid (((Below.refl _ w).alloc (Nat.le_refl _) monthsO).trans (hb.mono (by simp)));clear hb;go_wp2_with fail
 refine (HM.out _).mono ?_;rintro e w1 ⟨rfl,rfl⟩;go_wp2_with fail
 go_ret2
 exact ⟨by rw [←HW.out];rfl,HB.out⟩
theorem rto_any (s:ByteArray) (w:World) (hs:s.size≤1048576) :
 Calls Tryz.prog 164 #[.string s] w fun e w'=>e=.returned (.tuple #[.int .i64 (wordR toL 1 s.data.toList).1,.int .i64 (wordR toL 1 s.data.toList).2])∧Below w.heap.size w w':=by
 have HF:=Lib.hid (rfind_any w.heap.size 2 toL s (w.alloc yearsO) (yearsO_cell w) (by simp) (by decide) (by decide) hs);have hm:=more_find toL s.data.toList (by decide);have HW:=Lib.hid hm.1;have hbd:=hm.2;clear hm;generalize wordR toL 1 s.data.toList=R at *;generalize findRR toL s.data.toList=F at *;obtain ⟨f1,f2⟩:=F;simp only at HF HW hbd;have HM:=Lib.hid (fun w=>rmore_any f1 f2 w hbd)
 go_enter Tryz.func164,Tryz.ntmps164;go_wp2_with fail
 refine (ryears_any w).mono ?_;rintro e w1 ⟨rfl,rfl⟩;go_wp2_with fail
 refine HF.out.mono ?_;rintro e w1 ⟨rfl,hb⟩;have HB:=Lib.hid (((Below.refl _ w).alloc (Nat.le_refl _) yearsO).trans (hb.mono (by simp)));clear hb;go_wp2_with fail
 refine (HM.out _).mono ?_;rintro e w1 ⟨rfl,rfl⟩;go_wp2_with fail
 go_ret2
 exact ⟨by rw [←HW.out];rfl,HB.out⟩
theorem calls_flip {P:Program} {f:FuncId} {args:Array Value} {w:World} {E:Ending} (h:Calls P f args w fun e w'=>e=E∧w'=w):Calls P f args w fun e w'=>e=E∧w=w':=h.mono fun _ _ ⟨a,b⟩=>⟨a,b.symm⟩
theorem yearR_bad {l:List UInt8} (h:¬isYear l):yearR l=(0,5):=if_neg h
theorem r10year_any (s:ByteArray) (w:World) (hs:s.size≤1048576) :
 Calls Tryz.prog 116 #[.string s] w fun e w'=>e=.returned (.tuple #[.int .i64 (yearR s.data.toList).1,.int .i64 (yearR s.data.toList).2])∧w'=w:=by
 have hll:s.data.toList.length=s.size:=by simp
 have HLL:=Lib.hid hll
 by_cases hsz:1≤s.size∧s.size≤4
 ·obtain ⟨h1,h4⟩:=hsz
  have z1:¬(s.size:Int)<1:=by omega
  have z4:¬4<(s.size:Int):=by omega
  have hs0:(0:Int)<(s.size:Int):=by omega
  obtain ⟨c0,hc0⟩:∃c:UInt8,c=s[0]'(by omega):=⟨_,rfl⟩;have g00:∀h,(s[0]'h).toNat=c0.toNat:=fun _=>by rw [hc0]
  have hhead:s.data.toList.head? = some c0:=by
   rw [List.head?_eq_getElem?,List.getElem?_eq_getElem (by omega),hc0];rfl
  by_cases h48:c0=48
  ·have HY:=Lib.hid (yearR_bad (l:=s.data.toList) fun h=>h.2.2.1 (by rw [hhead,h48]))
   have h48b:((c0.toNat:Int)==48)=true:=by rw [h48];rfl
   clear hhead hc0 h48 hll
   go_enter Tryz.func116,Tryz.ntmps116;go_wp2_with fail
   go_ret2
   exact ⟨by rw [HY.out];rfl,rfl⟩
  ·have h48b:((c0.toNat:Int)==48)=false:=by rw [beq_eq_false_iff_ne];intro h;exact h48 (UInt8.toNat_inj.1 (by have a1:(48:UInt8).toNat=48:=rfl;omega))
   have HH:=Lib.hid (show s.data.toList.head? ≠ some 48 by rw [hhead];intro h;injection h with h;exact h48 h);clear hhead hc0 h48 hll
   go_enter Tryz.func116,Tryz.ntmps116;go_wp2_with fail
   clear g00 h48b
   go_loop [4,5] (fun y i=>∃k:Nat,k≤s.size∧i=.int .i64 (k:Int)∧y=.int .i64 (valD (s.data.toList.take k):Int)∧Aside (allD (s.data.toList.take k))) (fun _ i=>s.size-(intOf i).toNat)
   case atStart=>exact ⟨0,Nat.zero_le _,rfl,rfl,fun a ha=>by simp at ha⟩
   case round =>
    obtain ⟨k,hk,rfl,rfl,hall⟩:=hrel;have hv:=valD_lt _ hall.out
    have hv4:valD (s.data.toList.take k)≤9999:=by
     have h1:(s.data.toList.take k).length≤4:=by rw [List.length_take,HLL.out];omega
     have:=Nat.pow_le_pow_right (show 0<10 by decide) h1
     omega
    have HA:=Lib.hid hall.out;clear hall hv
    by_cases hlt:k<s.size
    ·obtain ⟨c8,hc8⟩:∃c:UInt8,c=s[k]'hlt:=⟨_,rfl⟩
     have htk:s.data.toList.take (k+1)=s.data.toList.take k++[c8]:=by
      rw [List.take_succ_eq_append_getElem (by rw [HLL.out];exact hlt),hc8];rfl
     have hmem:c8 ∈ s.data.toList:=by rw [hc8];exact List.getElem_mem _
     have g0:∀h,(s[k]'h).toNat=c8.toNat:=fun _=>by rw [hc8]
     have d0:decide (k<s.size)=true:=by simp;omega
     have HT:=Lib.hid htk;have HM:=Lib.hid hmem;clear hc8 htk hmem
     by_cases hd:48≤c8.toNat∧c8.toNat≤57
     ·have HV:=Lib.hid (show (10*(valD (s.data.toList.take k):Int)+((c8.toNat:Int)-48))=(valD (s.data.toList.take (k+1)):Int) by rw [HT.out,valD_snoc];omega)
      have HA2:=Lib.hid (show allD (s.data.toList.take (k+1)) by
       rw [HT.out];intro a ha
       rcases List.mem_append.1 ha with h|h
       ·exact HA.out a h
       ·simp at h;subst h;exact hd)
      have x1:¬(c8.toNat:Int)<48:=by omega
      have x2:¬57<(c8.toNat:Int):=by omega
      have hv3:valD (s.data.toList.take k)≤9999:=hv4;clear hd;generalize valD (s.data.toList.take k)=v at *;go_wp2_with fail
      go_round
      case rel=>exact ⟨k+1,by omega,by go_num,by rw [←HV.out],HA2.out⟩
      case measure=>simp [intOf];omega
     ·have HY:=Lib.hid (yearR_bad (l:=s.data.toList) fun h=>hd (h.2.2.2 _ HM.out))
      rcases (by omega:(c8.toNat:Int)<48∨(¬(c8.toNat:Int)<48∧57<(c8.toNat:Int))) with x1|⟨x1,x2⟩
      all_goals
       clear hd;go_wp2_with fail
       go_ret2
       exact ⟨by rw [HY.out];rfl,rfl⟩
    ·obtain rfl:k=s.size:=by omega
     have htk:s.data.toList.take s.size=s.data.toList:=List.take_of_length_le (by rw [HLL.out];omega);have d0:decide (s.size<s.size)=false:=by simp
     have hY:isYear s.data.toList:=⟨by rw [HLL.out];exact h1,by rw [HLL.out];exact h4,HH.out,by have:=HA.out;rwa [htk] at this⟩
     have hR:yearR s.data.toList=if 1850≤valD (s.data.toList.take s.size)∧valD (s.data.toList.take s.size)≤2149 then ((valD (s.data.toList.take s.size):Int),0) else (0,3):=by
      rw [htk];exact if_pos hY
     clear hY htk HA hlt;generalize valD (s.data.toList.take s.size)=v at *
     by_cases h18:v<1850
     ·have HY:=Lib.hid (hR.trans (if_neg (by omega)))
      have x1:(v:Int)<1850:=by omega
      clear hR h18;go_wp2_with fail
      go_ret2
      exact ⟨by rw [HY.out];rfl,rfl⟩
     ·have x1:¬(v:Int)<1850:=by omega
      by_cases h21:2149<v
      ·have HY:=Lib.hid (hR.trans (if_neg (by omega)))
       have x2:2149<(v:Int):=by omega
       clear hR h18 h21;go_wp2_with fail
       go_ret2
       exact ⟨by rw [HY.out];rfl,rfl⟩
      ·have HY:=Lib.hid (hR.trans (if_pos (by omega)))
       have x2:¬2149<(v:Int):=by omega
       clear hR h18 h21;go_wp2_with fail
       go_ret2
       exact ⟨by rw [HY.out];rfl,rfl⟩
 ·have HY:=Lib.hid (yearR_bad (l:=s.data.toList) fun h=>hsz ⟨by have:=h.1;omega,by have:=h.2.1;omega⟩)
  rcases (by omega:(s.size:Int)<1∨(¬(s.size:Int)<1∧4<(s.size:Int))) with h|⟨h,h2⟩
  all_goals
   clear hsz hll
   go_enter Tryz.func116,Tryz.ntmps116;go_wp2_with fail
   go_ret2
   exact ⟨by rw [HY.out];rfl,rfl⟩
theorem r10to_any (s:ByteArray) (f:Int) (w:World) (hs:s.size≤1048576) :
 Calls Tryz.prog 117 #[.string s,.int .i64 f] w fun e w'=>e=.returned (.tuple #[.int .i64 (untilR s.data.toList f).1,.int .i64 (untilR s.data.toList f).2])∧Below w.heap.size w w':=by
 have HYr:=Lib.hid (fun W=>r10year_any s W hs);have HTo:=Lib.hid (fun W=>rto_any s W hs);have hLx:=wordR_err toL 1 s.data.toList;have hll:s.data.toList.length=s.size:=by simp
 by_cases hsz:s.size=0
 ·have hn:s.data.toList=[]:=List.eq_nil_of_length_eq_zero (by omega)
  have hem:s.toList.isEmpty=true:=by rw [Lib.toList_data,hn];rfl
  have HU:=Lib.hid (until_word (l:=s.data.toList) (fun c hc=>by rw [hn] at hc;cases hc) f);clear hn hll hsz;generalize wordR toL 1 s.data.toList=R at *;obtain ⟨r,x⟩:=R;simp only at HU HTo hLx
  rcases hLx with rfl|rfl
  ·by_cases h1:r=1
   ·have HU2:=Lib.hid (HU.out.trans (by rw [if_pos rfl,if_pos h1]))
    have hb:(r==1)=true:=by rw [beq_iff_eq];exact h1
    clear HU h1
    go_enter Tryz.func117,Tryz.ntmps117;go_wp2_with fail
    refine (HTo.out _).mono ?_;rintro e w1 ⟨rfl,hb1⟩;go_wp2_with fail
    go_ret2
    exact ⟨by rw [HU2.out];rfl,hb1⟩
   ·have HU2:=Lib.hid (HU.out.trans (by rw [if_pos rfl,if_neg h1]))
    have hb:(r==1)=false:=by rw [beq_eq_false_iff_ne];exact h1
    clear HU h1
    go_enter Tryz.func117,Tryz.ntmps117;go_wp2_with fail
    refine (HTo.out _).mono ?_;rintro e w1 ⟨rfl,hb1⟩;go_wp2_with fail
    go_ret2
    exact ⟨by rw [HU2.out];rfl,hb1⟩
  ·have HU2:=Lib.hid (HU.out.trans (if_neg (by decide)))
   clear HU
   go_enter Tryz.func117,Tryz.ntmps117;go_wp2_with fail
   refine (HTo.out _).mono ?_;rintro e w1 ⟨rfl,hb1⟩;go_wp2_with fail
   go_ret2
   exact ⟨by rw [HU2.out];rfl,hb1⟩
 ·have hem:s.toList.isEmpty=false:=by
   rw [Lib.toList_data]
   cases h:s.data.toList with
   | nil=>rw [h] at hll;simp at hll;omega
   | cons a l=>rfl
  have hs0:(0:Int)<(s.size:Int):=by omega
  have hd0:decide (0<s.size)=true:=by simp;omega
  obtain ⟨c0,hc0⟩:∃c:UInt8,c=s[0]'(by omega):=⟨_,rfl⟩;have g00:∀h,(s[0]'h).toNat=c0.toNat:=fun _=>by rw [hc0]
  have hhead:s.data.toList.head? = some c0:=by
   rw [List.head?_eq_getElem?,List.getElem?_eq_getElem (by omega),hc0];rfl
  by_cases hdg:48≤c0.toNat∧c0.toNat≤57
  ·have HU:=Lib.hid (until_year (l:=s.data.toList) (f:=f) hhead hdg)
   have x1:(48:Int)≤(c0.toNat:Int):=by omega
   have x2:(c0.toNat:Int)≤57:=by omega
   clear hhead hc0 hll hsz hdg
   go_enter Tryz.func117,Tryz.ntmps117;go_wp2_with fail
   refine (HYr.out _).mono ?_;rintro e w1 ⟨rfl,rfl⟩;go_wp2_with fail
   go_ret2
   exact ⟨by rw [HU.out];rfl,Below.refl _ _⟩
  ·have HU:=Lib.hid (until_word (l:=s.data.toList) (fun c hc=>by rw [hhead] at hc;cases hc;exact hdg) f)
   have hx:¬(48:Int)≤(c0.toNat:Int)∨((48:Int)≤(c0.toNat:Int)∧¬(c0.toNat:Int)≤57):=by omega
   clear hhead hc0 hll hsz hdg;generalize wordR toL 1 s.data.toList=R at *;obtain ⟨r,x⟩:=R;simp only at HU HTo hLx
   rcases hLx with rfl|rfl
   ·by_cases h1:r=1
    ·have HU2:=Lib.hid (HU.out.trans (by rw [if_pos rfl,if_pos h1]))
     have hb:(r==1)=true:=by rw [beq_iff_eq];exact h1
     clear HU h1
     rcases hx with x1|⟨x1,x2⟩
     all_goals
      go_enter Tryz.func117,Tryz.ntmps117;go_wp2_with fail
      refine (HTo.out _).mono ?_;rintro e w1 ⟨rfl,hb1⟩;go_wp2_with fail
      go_ret2
      exact ⟨by rw [HU2.out];rfl,hb1⟩
    ·have HU2:=Lib.hid (HU.out.trans (by rw [if_pos rfl,if_neg h1]))
     have hb:(r==1)=false:=by rw [beq_eq_false_iff_ne];exact h1
     clear HU h1
     rcases hx with x1|⟨x1,x2⟩
     all_goals
      go_enter Tryz.func117,Tryz.ntmps117;go_wp2_with fail
      refine (HTo.out _).mono ?_;rintro e w1 ⟨rfl,hb1⟩;go_wp2_with fail
      go_ret2
      exact ⟨by rw [HU2.out];rfl,hb1⟩
   ·have HU2:=Lib.hid (HU.out.trans (if_neg (by decide)))
    clear HU
    rcases hx with x1|⟨x1,x2⟩
    all_goals
     go_enter Tryz.func117,Tryz.ntmps117;go_wp2_with fail
     refine (HTo.out _).mono ?_;rintro e w1 ⟨rfl,hb1⟩;go_wp2_with fail
     go_ret2
     exact ⟨by rw [HU2.out];rfl,hb1⟩
end Go.Proofs.YtciclddfhohieaaGreatDoor
