/-
  The document's layer 11: written, named, year, right.
  The document's layer 11: rules.
-/
import Derived.Test.YtciclddfhohieaaGreatDoorRefTen
import Derived.Test.YtciclddfhohieaaGreatDoorRefNine
import Derived.Test.YtciclddfhohieaaGreatDoorEraHead
import Derived.Test.YtciclddfhohieaaGreatDoorEraParse
set_option linter.unusedVariables false
set_option maxRecDepth 100000
set_option maxHeartbeats 4000000
namespace Go.Proofs.YtciclddfhohieaaGreatDoor
open Go.RowKit
theorem fmt_not {c:UInt8} (h:fmtC c=false):(c.toNat:Int)<33∨(¬(c.toNat:Int)<33∧126<(c.toNat:Int))∨(¬(c.toNat:Int)<33∧¬126<(c.toNat:Int)∧((c.toNat:Int)==34)=true)∨(¬(c.toNat:Int)<33∧¬126<(c.toNat:Int)∧((c.toNat:Int)==34)=false∧((c.toNat:Int)==35)=true):=by
 have:=of_decide_eq_false h;simp only [beq_iff_eq,beq_eq_false_iff_ne]
 omega
theorem fmt_ok {c:UInt8} (h:fmtC c=true):¬(c.toNat:Int)<33∧¬126<(c.toNat:Int)∧((c.toNat:Int)==34)=false∧((c.toNat:Int)==35)=false:=by
 have:=of_decide_eq_true h;simp only [beq_eq_false_iff_ne]
 omega
theorem r11written_any (s:ByteArray) (w:World) (hs:s.size≤1048576) :
 Calls Tryz.prog 112 #[.string s] w fun e w'=>e=.returned (.bool (fmtB s.data.toList))∧w'=w:=by
 have HLL:=Lib.hid (show s.data.toList.length=s.size by simp)
 go_enter Tryz.func112,Tryz.ntmps112;go_wp2_with fail
 go_loop [3] (fun i=>∃k:Nat,k≤s.size∧i=.int .i64 (k:Int)∧Aside (∀c ∈ s.data.toList.take k,fmtC c=true)) (fun i=>s.size-(intOf i).toNat)
 case atStart=>exact ⟨0,Nat.zero_le _,rfl,fun c hc=>by simp at hc⟩
 case round =>
  obtain ⟨k,hk,rfl,hall⟩:=hrel;have HA:=Lib.hid hall.out;clear hall
  by_cases hlt:k<s.size
  ·obtain ⟨c8,hc8⟩:∃c:UInt8,c=s[k]'hlt:=⟨_,rfl⟩
   have htk:s.data.toList.take (k+1)=s.data.toList.take k++[c8]:=by
    rw [List.take_succ_eq_append_getElem (by rw [HLL.out];exact hlt),hc8];rfl
   have hmem:c8 ∈ s.data.toList:=by rw [hc8];exact List.getElem_mem _
   have g0:∀h,(s[k]'h).toNat=c8.toNat:=fun _=>by rw [hc8]
   have d0:decide (k<s.size)=true:=by simp;omega
   have HT:=Lib.hid htk;have HM:=Lib.hid hmem;clear hc8 htk hmem
   cases hf:fmtC c8 with
   | true =>
    obtain ⟨x1,x2,x3,x4⟩:=fmt_ok hf;have HF:=Lib.hid hf;clear hf;go_wp2_with fail
    go_round
    case rel=>exact ⟨k+1,by omega,by go_num,fun c hc=>by
     rw [HT.out] at hc
     rcases List.mem_append.1 hc with h|h
     ·exact HA.out c h
     ·simp at h;subst h;exact HF.out⟩
    case measure=>simp [intOf];omega
   | false =>
    have HB:=Lib.hid (show fmtB s.data.toList=false by
     unfold fmtB;rw [Bool.and_eq_false_iff];exact .inr (by rw [List.all_eq_false];exact ⟨c8,HM.out,by rw [hf];decide⟩))
    have hcs:=fmt_not hf;clear hf HT HM HA
    rcases hcs with x1|⟨x1,x2⟩|⟨x1,x2,x3⟩|⟨x1,x2,x3,x4⟩
    all_goals
     go_wp2_with fail
     go_ret
     exact ⟨by rw [HB.out];rfl,rfl⟩
  ·obtain rfl:k=s.size:=by omega
   have d0:decide (s.size<s.size)=false:=by simp
   have HF:=Lib.hid (show fmtB s.data.toList=decide (1≤s.size∧s.size≤20) by
    unfold fmtB
    have:s.data.toList.all fmtC=true:=by
     rw [List.all_eq_true];intro c hc;exact HA.out c (by rw [List.take_of_length_le (by rw [HLL.out];omega)];exact hc)
    rw [this,Bool.and_true,HLL.out])
   clear HA hk hlt
   by_cases h1:1≤s.size
   ·by_cases h2:s.size≤20
    ·have z1:(1:Int)≤(s.size:Int):=by omega
     have z2:(s.size:Int)≤20:=by omega
     replace HF:=Lib.hid (HF.out.trans (decide_eq_true ⟨h1,h2⟩));clear h1 h2;go_wp2_with fail
     go_ret
     exact ⟨by rw [HF.out];rfl,rfl⟩
    ·have z1:(1:Int)≤(s.size:Int):=by omega
     have z2:¬(s.size:Int)≤20:=by omega
     replace HF:=Lib.hid (HF.out.trans (decide_eq_false (fun h=>h2 h.2)));clear h1 h2;go_wp2_with fail
     go_ret
     exact ⟨by rw [HF.out];rfl,rfl⟩
   ·have z1:¬(1:Int)≤(s.size:Int):=by omega
    replace HF:=Lib.hid (HF.out.trans (decide_eq_false (fun h=>h1 h.1)));clear h1;go_wp2_with fail
    go_ret
    exact ⟨by rw [HF.out];rfl,rfl⟩
theorem r11named_any (y:Int) (w:World) :
 Calls Tryz.prog 194 #[.int .i64 y] w fun e w'=>e=.returned (.bool (namedB y))∧w'=w:=by
 obtain ⟨r,hr⟩:∃r,namedB y=r:=⟨_,rfl⟩;rw [hr]
 cases r with
 | true =>
  obtain ⟨h1,h2⟩:=of_decide_eq_true hr;clear hr
  go_enter Tryz.func194,Tryz.ntmps194;go_wp2_with fail
  go_ret
  exact ⟨rfl,rfl⟩
 | false =>
  have hc:=of_decide_eq_false hr
  rcases (by omega:¬1850≤y∨(1850≤y∧¬y≤2149)) with h1|⟨h1,h2⟩
  all_goals
   clear hr hc
   go_enter Tryz.func194,Tryz.ntmps194;go_wp2_with fail
   go_ret
   exact ⟨rfl,rfl⟩
theorem r11year_any (s:ByteArray) (w:World) (hs:s.size≤1048576) :
 Calls Tryz.prog 161 #[.string s] w fun e w'=>e=.returned (.tuple #[.int .i64 (yearR s.data.toList).1,.int .i64 (yearR s.data.toList).2])∧w'=w:=by
 have hll:s.data.toList.length=s.size:=by simp
 have HLL:=Lib.hid hll
 by_cases hsz:1≤s.size∧s.size≤4
 ·obtain ⟨h1,h4⟩:=hsz
  have z1:¬(s.size:Int)<1:=by omega
  have z4:¬4<(s.size:Int):=by omega
  have hs0:(0:Int)<(s.size:Int):=by omega
  obtain ⟨c0,hc0⟩:∃c:UInt8,c=s[0]'(by omega):=⟨_,rfl⟩;have g00:∀h,(s[0]'h).toNat=c0.toNat:=fun _=>by rw [hc0]
  have hhead:s.data.toList.head? = some c0:=by
   rw [List.head?_eq_getElem?,List.getElem?_eq_getElem (by omega),hc0];rfl
  by_cases h48:c0=48
  ·have HY:=Lib.hid (yearR_bad (l:=s.data.toList) fun h=>h.2.2.1 (by rw [hhead,h48]))
   have h48b:((c0.toNat:Int)==48)=true:=by rw [h48];rfl
   clear hhead hc0 h48 hll
   go_enter Tryz.func161,Tryz.ntmps161;go_wp2_with fail
   go_ret2
   exact ⟨by rw [HY.out];rfl,rfl⟩
  ·have h48b:((c0.toNat:Int)==48)=false:=by rw [beq_eq_false_iff_ne];intro h;exact h48 (UInt8.toNat_inj.1 (by have a1:(48:UInt8).toNat=48:=rfl;omega))
   have HH:=Lib.hid (show s.data.toList.head? ≠ some 48 by rw [hhead];intro h;injection h with h;exact h48 h);clear hhead hc0 h48 hll
   go_enter Tryz.func161,Tryz.ntmps161;go_wp2_with fail
   clear g00 h48b
   go_loop [4,5] (fun y i=>∃k:Nat,k≤s.size∧i=.int .i64 (k:Int)∧y=.int .i64 (valD (s.data.toList.take k):Int)∧Aside (allD (s.data.toList.take k))) (fun _ i=>s.size-(intOf i).toNat)
   case atStart=>exact ⟨0,Nat.zero_le _,rfl,rfl,fun a ha=>by simp at ha⟩
   case round =>
    obtain ⟨k,hk,rfl,rfl,hall⟩:=hrel;have hv:=valD_lt _ hall.out
    have hv4:valD (s.data.toList.take k)≤9999:=by
     have h1:(s.data.toList.take k).length≤4:=by rw [List.length_take,HLL.out];omega
     have:=Nat.pow_le_pow_right (show 0<10 by decide) h1
     omega
    have HA:=Lib.hid hall.out;clear hall hv
    by_cases hlt:k<s.size
    ·obtain ⟨c8,hc8⟩:∃c:UInt8,c=s[k]'hlt:=⟨_,rfl⟩
     have htk:s.data.toList.take (k+1)=s.data.toList.take k++[c8]:=by
      rw [List.take_succ_eq_append_getElem (by rw [HLL.out];exact hlt),hc8];rfl
     have hmem:c8 ∈ s.data.toList:=by rw [hc8];exact List.getElem_mem _
     have g0:∀h,(s[k]'h).toNat=c8.toNat:=fun _=>by rw [hc8]
     have d0:decide (k<s.size)=true:=by simp;omega
     have HT:=Lib.hid htk;have HM:=Lib.hid hmem;clear hc8 htk hmem
     by_cases hd:48≤c8.toNat∧c8.toNat≤57
     ·have HV:=Lib.hid (show (10*(valD (s.data.toList.take k):Int)+((c8.toNat:Int)-48))=(valD (s.data.toList.take (k+1)):Int) by rw [HT.out,valD_snoc];omega)
      have HA2:=Lib.hid (show allD (s.data.toList.take (k+1)) by
       rw [HT.out];intro a ha
       rcases List.mem_append.1 ha with h|h
       ·exact HA.out a h
       ·simp at h;subst h;exact hd)
      have x1:¬(c8.toNat:Int)<48:=by omega
      have x2:¬57<(c8.toNat:Int):=by omega
      have hv3:valD (s.data.toList.take k)≤9999:=hv4;clear hd;generalize valD (s.data.toList.take k)=v at *;go_wp2_with fail
      go_round
      case rel=>exact ⟨k+1,by omega,by go_num,by rw [←HV.out];exact congrArg _ (by omega),HA2.out⟩
      case measure=>simp [intOf];omega
     ·have HY:=Lib.hid (yearR_bad (l:=s.data.toList) fun h=>hd (h.2.2.2 _ HM.out))
      rcases (by omega:(c8.toNat:Int)<48∨(¬(c8.toNat:Int)<48∧57<(c8.toNat:Int))) with x1|⟨x1,x2⟩
      all_goals
       clear hd;go_wp2_with fail
       go_ret2
       exact ⟨by rw [HY.out];rfl,rfl⟩
    ·obtain rfl:k=s.size:=by omega
     have htk:s.data.toList.take s.size=s.data.toList:=List.take_of_length_le (by rw [HLL.out];omega);have d0:decide (s.size<s.size)=false:=by simp
     have hY:isYear s.data.toList:=⟨by rw [HLL.out];exact h1,by rw [HLL.out];exact h4,HH.out,by have:=HA.out;rwa [htk] at this⟩
     have hR:yearR s.data.toList=if 1850≤valD (s.data.toList.take s.size)∧valD (s.data.toList.take s.size)≤2149 then ((valD (s.data.toList.take s.size):Int),0) else (0,3):=by
      rw [htk];exact if_pos hY
     clear hY htk HA hlt;generalize valD (s.data.toList.take s.size)=v at *;have HNm:=Lib.hid (r11named_any (v:Int) w)
     by_cases hn:namedB (v:Int)=true
     ·have hn2:=of_decide_eq_true hn
      have HY:=Lib.hid (hR.trans (if_pos (by omega)));rw [hn] at HNm;clear hR hn hn2;go_wp2_with fail
      refine HNm.out.mono ?_;rintro e w1 ⟨rfl,rfl⟩;go_wp2_with fail
      go_ret2
      exact ⟨by rw [HY.out];rfl,rfl⟩
     ·have hn1:namedB (v:Int)=false:=by simpa using hn
      have hn2:=of_decide_eq_false hn1;have HY:=Lib.hid (hR.trans (if_neg (by omega)));rw [hn1] at HNm;clear hR hn hn1 hn2;go_wp2_with fail
      refine HNm.out.mono ?_;rintro e w1 ⟨rfl,rfl⟩;go_wp2_with fail
      go_ret2
      exact ⟨by rw [HY.out];rfl,rfl⟩
 ·have HY:=Lib.hid (yearR_bad (l:=s.data.toList) fun h=>hsz ⟨by have:=h.1;omega,by have:=h.2.1;omega⟩)
  rcases (by omega:(s.size:Int)<1∨(¬(s.size:Int)<1∧4<(s.size:Int))) with h|⟨h,h2⟩
  all_goals
   clear hsz hll
   go_enter Tryz.func161,Tryz.ntmps161;go_wp2_with fail
   go_ret2
   exact ⟨by rw [HY.out];rfl,rfl⟩
theorem eLetter' (s:ByteArray) (w:World) (hs:s.size≤1048576):Calls Tryz.prog 121 #[.string s] w fun e w'=>e=.returned (.bool (ofB 1 4 1 s.data.toList))∧w=w':=calls_flip (r7Letter_any s w hs)
theorem eSet' (s:ByteArray) (w:World) (hs:s.size≤1048576):Calls Tryz.prog 115 #[.string s] w fun e w'=>e=.returned (.bool (setB s.data.toList))∧w=w':=calls_flip (r7Set_any s w hs)
def RulesC (off:Int) (s:List UInt8) (e:Ending):Prop:=∃C:Array Value,e=.returned (.tuple #[.agg C,.int .i64 (rulesR s).2])∧C.size=13∧C.all (·.oneCell')=true∧((rulesR s).2=0→C=#[.int .i64 off,.int .i64 (rulesR s).1.1,.int .i64 (rulesR s).1.2.1,.string ⟨(rulesR s).1.2.2.toArray⟩,.string ⟨#[]⟩,.bool false,.int .i64 0,.int .i64 0,.int .i64 0,.int .i64 0,.int .i64 0,.int .i64 0,.int .i64 0])
theorem RulesC.mk {off:Int} {s:List UInt8} {e:Ending} (kd sv:Int) (sn:ByteArray) (x:Int) (he:e=.returned (.tuple #[.agg #[.int .i64 off,.int .i64 kd,.int .i64 sv,.string sn,.string ⟨#[]⟩,.bool false,.int .i64 0,.int .i64 0,.int .i64 0,.int .i64 0,.int .i64 0,.int .i64 0,.int .i64 0],.int .i64 x])) (hx:(rulesR s).2=x) (h:x=0→rulesR s=((kd,sv,sn.data.toList),0)):RulesC off s e :=
 ⟨_,by rw [hx];exact he,rfl,by simp [Value.oneCell'],fun h0=>by rw [h (hx ▸ h0)]⟩
theorem r11rules_dash (off:Int) (w:World) :
 Calls Tryz.prog 111 #[.agg #[.int .i64 off,.int .i64 0,.int .i64 0,.string ⟨#[]⟩,.string ⟨#[]⟩,.bool false,.int .i64 0,.int .i64 0,.int .i64 0,.int .i64 0,.int .i64 0,.int .i64 0,.int .i64 0],.string ⟨#[45]⟩] w fun e w'=>RulesC off [45] e∧Below w.heap.size w w':=by
 have HR:=Lib.hid (show rulesR [45]=((0,0,[]),0) from if_pos rfl)
 go_enter Tryz.func111,Tryz.ntmps111;go_wp2_with fail
 refine bodyPost_ret (by simp [results,Tryz.results111,go_sem];rfl) rfl ⟨?_,?_⟩
 ·exact RulesC.mk 0 0 ⟨#[]⟩ 0 rfl (by rw [HR.out]) fun _=>HR.out
 ·go_grown
theorem r11rules_name (s:ByteArray) (off:Int) (w:World) (hs:s.size≤1048576) (h1:s.data.toList≠[45]) (h2:headB s.data.toList=true) :
 Calls Tryz.prog 111 #[.agg #[.int .i64 off,.int .i64 0,.int .i64 0,.string ⟨#[]⟩,.string ⟨#[]⟩,.bool false,.int .i64 0,.int .i64 0,.int .i64 0,.int .i64 0,.int .i64 0,.int .i64 0,.int .i64 0],.string s] w fun e w'=>RulesC off s.data.toList e∧Below w.heap.size w w':=by
 have HR:=Lib.hid (show rulesR s.data.toList=if setB s.data.toList=true then ((2,0,s.data.toList),0) else ((0,0,[]),9) by rw [rulesR,if_neg h1,if_pos h2])
 have hem:s.toList.isEmpty=false:=by
  rw [Lib.toList_data]
  cases h:s.data.toList with
  | nil=>rw [h] at h2;exact absurd h2 (by decide)
  | cons a l=>rfl
 have hsz:(1:Int)≤(s.size:Int):=by
  have h3:s.data.toList.length=s.size:=by simp
  cases h:s.data.toList with
  | nil=>rw [h] at h2;exact absurd h2 (by decide)
  | cons a l=>rw [h] at h3;simp at h3;omega
 have hnn:(s.toList != [])=true:=by
  rw [bne_iff_ne,Lib.toList_data];intro h;rw [h] at h2;exact absurd h2 (by decide)
 have HL:=Lib.hid (show ∀W,Calls Tryz.prog 121 #[.string (s.extract 0 1)] W fun e w'=>e=.returned (.bool true)∧W=w' from fun W=>by
  have h:=eLetter' (s.extract 0 1) W (size_part _ _ _ _ hs);rw [list_upto] at h;rwa [show ofB 1 4 1 (s.data.toList.take 1)=true from h2] at h)
 have HS:=Lib.hid (fun W=>eSet' s W hs);have hne:=str_ne h1
 cases h3:setB s.data.toList
 all_goals
  rw [h3] at HR HS;clear h1 h2 h3
  go_enter Tryz.func111,Tryz.ntmps111;go_wp2_with fail
  refine (HL.out _).mono ?_;rintro e w1 ⟨rfl,rfl⟩;go_wp2_with fail
  refine (HS.out _).mono ?_;rintro e w1 ⟨rfl,rfl⟩;go_wp2_with fail
  refine bodyPost_ret (by simp [results,Tryz.results111,go_sem];rfl) rfl ⟨?_,?_⟩
  ·first|exact RulesC.mk 2 0 s 9 rfl (by rw [HR.out];rfl) (fun h=>absurd h (by decide))|exact RulesC.mk 2 0 s 0 rfl (by rw [HR.out];rfl) (fun _=>HR.out.trans rfl)
  ·go_grown
theorem r11rules_off (s:ByteArray) (off:Int) (w:World) (hs:s.size≤1048576) (h1:s.data.toList≠[45]) (h2:headB s.data.toList=false) :
 Calls Tryz.prog 111 #[.agg #[.int .i64 off,.int .i64 0,.int .i64 0,.string ⟨#[]⟩,.string ⟨#[]⟩,.bool false,.int .i64 0,.int .i64 0,.int .i64 0,.int .i64 0,.int .i64 0,.int .i64 0,.int .i64 0],.string s] w fun e w'=>RulesC off s.data.toList e∧Below w.heap.size w w':=by
 have HR:=Lib.hid (show rulesR s.data.toList=if (offParseR s.data.toList).2=0 then ((1,(offParseR s.data.toList).1,[]),0) else ((0,0,[]),(offParseR s.data.toList).2) by rw [rulesR,if_neg h1,h2,if_neg (by decide)]);have HP:=Lib.hid (fun W=>r4parse_any s W hs);have hne:=str_ne h1;have HB0:=Lib.hid (show Blk ((w.alloc (.cells #[.int .i64 off,.int .i64 0,.int .i64 0,.string ⟨#[]⟩,.string ⟨#[]⟩,.bool false,.int .i64 0,.int .i64 0,.int .i64 0,.int .i64 0,.int .i64 0,.int .i64 0,.int .i64 0] 63)).alloc (.cells #[.int .i64 0,.int .i64 0,.int .i64 0,.string ⟨#[]⟩,.string ⟨#[]⟩,.bool false,.int .i64 0,.int .i64 0,.int .i64 0,.int .i64 0,.int .i64 0,.int .i64 0,.int .i64 0] 63)) w.heap.size 63 #[.int .i64 off,.int .i64 0,.int .i64 0,.string ⟨#[]⟩,.string ⟨#[]⟩,.bool false,.int .i64 0,.int .i64 0,.int .i64 0,.int .i64 0,.int .i64 0,.int .i64 0,.int .i64 0]∧Blk ((w.alloc (.cells #[.int .i64 off,.int .i64 0,.int .i64 0,.string ⟨#[]⟩,.string ⟨#[]⟩,.bool false,.int .i64 0,.int .i64 0,.int .i64 0,.int .i64 0,.int .i64 0,.int .i64 0,.int .i64 0] 63)).alloc (.cells #[.int .i64 0,.int .i64 0,.int .i64 0,.string ⟨#[]⟩,.string ⟨#[]⟩,.bool false,.int .i64 0,.int .i64 0,.int .i64 0,.int .i64 0,.int .i64 0,.int .i64 0,.int .i64 0] 63)) (w.heap.size+1) 63 #[.int .i64 0,.int .i64 0,.int .i64 0,.string ⟨#[]⟩,.string ⟨#[]⟩,.bool false,.int .i64 0,.int .i64 0,.int .i64 0,.int .i64 0,.int .i64 0,.int .i64 0,.int .i64 0]∧Below w.heap.size w ((w.alloc (.cells #[.int .i64 off,.int .i64 0,.int .i64 0,.string ⟨#[]⟩,.string ⟨#[]⟩,.bool false,.int .i64 0,.int .i64 0,.int .i64 0,.int .i64 0,.int .i64 0,.int .i64 0,.int .i64 0] 63)).alloc (.cells #[.int .i64 0,.int .i64 0,.int .i64 0,.string ⟨#[]⟩,.string ⟨#[]⟩,.bool false,.int .i64 0,.int .i64 0,.int .i64 0,.int .i64 0,.int .i64 0,.int .i64 0,.int .i64 0] 63)) from ⟨(Blk.new' _ _ _ rfl).alloc _,Blk.new' _ _ _ (by simp),by go_grown⟩);generalize offParseR s.data.toList=p at *;obtain ⟨x,y⟩:=p
 have HX:=Lib.hid (show (rulesR s.data.toList).2=y by
  rw [HR.out]
  by_cases h:y=0
  ·rw [if_pos h,h]
  ·rw [if_neg h])
 have HL:=Lib.hid (show s.data.toList≠[]→∀W,Calls Tryz.prog 121 #[.string (s.extract 0 1)] W fun e w'=>e=.returned (.bool false)∧W=w' from fun _ W=>by
  have h:=eLetter' (s.extract 0 1) W (size_part _ _ _ _ hs);rw [list_upto] at h;rwa [show ofB 1 4 1 (s.data.toList.take 1)=false from h2] at h)
 clear h1 h2
 by_cases hn:s.data.toList=[]
 case' pos =>
  have hem:s.toList.isEmpty=true:=by rw [Lib.toList_data,hn];rfl
  have hnn:(s.toList != [])=false:=by rw [Lib.toList_data,hn];rfl
  clear hn
  go_enter Tryz.func111,Tryz.ntmps111;go_wp2_with fail
 case' neg =>
  have hem:s.toList.isEmpty=false:=by rw [Lib.toList_data];cases h:s.data.toList with | nil=>exact absurd h hn | cons a l=>rfl
  have hnn:(s.toList != [])=true:=by rw [bne_iff_ne,Lib.toList_data];exact hn
  have hsz:(1:Int)≤(s.size:Int):=by
   have h3:s.data.toList.length=s.size:=by simp
   cases h:s.data.toList with
   | nil=>exact absurd h hn
   | cons a l=>rw [h] at h3;simp at h3;omega
  replace HL:=Lib.hid (HL.out hn);clear hn
  go_enter Tryz.func111,Tryz.ntmps111;go_wp2_with fail
  refine (HL.out _).mono ?_;rintro e w1 ⟨rfl,rfl⟩;go_wp2_with fail
 all_goals
  refine (HP.out _).mono ?_;rintro e w1 ⟨rfl,hb1⟩;have HB1:=Lib.hid (And.intro (HB0.out.1.below hb1 HB0.out.1.lt) (And.intro (HB0.out.2.1.below hb1 HB0.out.2.1.lt) (HB0.out.2.2.trans (hb1.mono HB0.out.2.2.size))));clear hb1 HB0 HP HL hem hnn;have q1:=HB1.out.1.cell_ (i:=1) rfl;have q2:=HB1.out.1.cell_ (i:=2) rfl;have f1:=HB1.out.1.frozen 1;have f2:=HB1.out.1.frozen 2;have hlt:=HB1.out.1.lt;obtain ⟨w2,hw2⟩:∃W,(w1.setCell ⟨w.heap.size,1,none⟩ (.int .i64 1)).setCell ⟨w.heap.size,2,none⟩ (.int .i64 x)=W:=⟨_,rfl⟩
  have HB2:=Lib.hid (show Blk w2 w.heap.size 63 #[.int .i64 off,.int .i64 1,.int .i64 x,.string ⟨#[]⟩,.string ⟨#[]⟩,.bool false,.int .i64 0,.int .i64 0,.int .i64 0,.int .i64 0,.int .i64 0,.int .i64 0,.int .i64 0]∧Blk w2 (w.heap.size+1) 63 #[.int .i64 0,.int .i64 0,.int .i64 0,.string ⟨#[]⟩,.string ⟨#[]⟩,.bool false,.int .i64 0,.int .i64 0,.int .i64 0,.int .i64 0,.int .i64 0,.int .i64 0,.int .i64 0]∧Below w.heap.size w w2 from by
   rw [←hw2];exact ⟨(HB1.out.1.set_ 1 _).set_ 2 _,(HB1.out.2.1.far (by simp) _).far (by simp) _,(HB1.out.2.2.setCell (Nat.le_refl _) _).setCell (Nat.le_refl _) _⟩)
  go_upto_region 12 with fail
  try simp only [hw2]
  clear hw2 HB1 q1 q2 f1 f2 hlt;obtain ⟨C,hCC⟩:∃C:Array Value,#[.int .i64 off,.int .i64 1,.int .i64 x,.string ⟨#[]⟩,.string ⟨#[]⟩,.bool false,.int .i64 0,.int .i64 0,.int .i64 0,.int .i64 0,.int .i64 0,.int .i64 0,.int .i64 0]=C:=⟨_,rfl⟩;have Hi:=Lib.hid (show (Tryz.prog.info? 63).map (·.size)=some C.size∧C.all (·.oneCell')=true∧C.size=13 from hCC ▸ ⟨infoEra,by simp [Value.oneCell'],rfl⟩);rw [hCC] at HB2;have HCC:=Lib.hid hCC;clear hCC
  go_wp2_with (first
   | (refine wpList_load_row rfl 63 (.tmp 2) rfl w.heap.size rfl 63 C (0,0) _ HB2.out.1 Tryz.underlying63 rfl Hi.out.1 ?_)
   | (refine wpList_store_mid rfl 63 (.tmp 4) (.tmp 34) rfl (w.heap.size+1) 0 C rfl rfl (HB2.out.2.1.there (by rw [Hi.out.2.2];decide)) Hi.out.1 Hi.out.2.1 ?_))
  refine bodyPost_ret (results_cell_tmp rfl _ _ (w.heap.size+1) 63 C _ _ rfl rfl (HB2.out.2.1.setAll C Hi.out.2.2) Tryz.underlying63 rfl Hi.out.1) rfl ⟨?_,below_sets (by omega) _ _ _ HB2.out.2.2⟩;rw [←HCC.out];exact RulesC.mk 1 x ⟨#[]⟩ y rfl HX.out fun h=>by rw [HR.out,if_pos h]
theorem r11rules_any (s:ByteArray) (off:Int) (w:World) (hs:s.size≤1048576) :
 Calls Tryz.prog 111 #[.agg #[.int .i64 off,.int .i64 0,.int .i64 0,.string ⟨#[]⟩,.string ⟨#[]⟩,.bool false,.int .i64 0,.int .i64 0,.int .i64 0,.int .i64 0,.int .i64 0,.int .i64 0,.int .i64 0],.string s] w fun e w'=>RulesC off s.data.toList e∧Below w.heap.size w w':=by
 by_cases h1:s.data.toList=[45]
 ·obtain rfl:s=⟨#[45]⟩:=str_of h1
  exact r11rules_dash off w
 ·cases h2:headB s.data.toList with
  | true=>exact r11rules_name s off w hs h1 h2
  | false=>exact r11rules_off s off w hs h1 h2
end Go.Proofs.YtciclddfhohieaaGreatDoor
