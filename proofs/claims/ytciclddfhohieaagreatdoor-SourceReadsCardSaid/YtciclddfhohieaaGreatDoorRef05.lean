/-
  The reference of layer 5: its lines and fields are the plain functions nlR and fieldsR.
-/
import Derived.Test.YtciclddfhohieaaGreatDoorLex
set_option linter.unusedVariables false
set_option linter.unusedSimpArgs false
set_option maxRecDepth 100000
set_option maxHeartbeats 4000000
namespace Go.Proofs.YtciclddfhohieaaGreatDoor
open Go.RowKit Go.Shelf
theorem quotR_suf:∀(l:List UInt8) (p:List UInt8 × List UInt8),quotR l=some p→p.2 <:+ l
 | [],_,h=>by cases h
 | c::l,p,h=>by
  unfold quotR at h
  split at h
  ·split at h
   ·cases h;exact List.suffix_cons _ _
   ·cases hq:quotR l with
    | none=>rw [hq] at h;cases h
    | some q =>
     rw [hq] at h
     cases h
     exact (quotR_suf l q hq).trans (List.suffix_cons _ _)
  ·cases h
theorem fieldR_suf:∀(n:Nat) (l acc:List UInt8) (p:List UInt8 × List UInt8),fieldR n l acc=some p→p.2 <:+ l
 | 0,_,_,_,h=>by cases h
 | n+1,[],acc,p,h=>by cases h;exact List.suffix_refl _
 | n+1,c::l,acc,p,h=>by
  simp only [fieldR] at h
  split at h
  ·exact (fieldR_suf n l _ p h).trans (List.suffix_cons _ _)
  ·split at h
   ·cases hq:quotR l with
    | none=>rw [hq] at h;cases h
    | some q =>
     rw [hq] at h;exact ((fieldR_suf n q.2 _ p h).trans (quotR_suf l q hq)).trans (List.suffix_cons _ _)
   ·cases h;exact List.suffix_refl _
theorem drop_suf {p L:List UInt8} {k:Nat} (h:p <:+ L.drop k):L.drop (L.length-p.length)=p:=(List.suffix_iff_eq_drop.1 (h.trans (List.drop_suffix k L))).symm
theorem fieldR_fuel:∀(n m:Nat) (l acc:List UInt8),l.length<n→l.length<m→fieldR n l acc=fieldR m l acc
 | 0,_,l,_,h,_=>by omega
 | _,0,l,_,_,h=>by omega
 | n+1,m+1,[],acc,_,_=>rfl
 | n+1,m+1,c::l,acc,h1,h2=>by
  simp only [fieldR];simp only [List.length_cons] at h1 h2
  split
  ·exact fieldR_fuel n m l _ (by omega) (by omega)
  ·split
   ·cases hq:quotR l with
    | none=>rfl
    | some q =>
     have:=(quotR_len l q hq).1;exact fieldR_fuel n m q.2 _ (by omega) (by omega)
   ·rfl
theorem rfGo_fuel:∀(n m:Nat) (l:List UInt8) (out:List (List UInt8)),l.length<n→l.length<m→rfGo n l out=rfGo m l out:=fun n m l out h1 h2=>(rfGo_is n l out h1).trans (rfGo_is m l out h2).symm
theorem quotR_sum:∀(l:List UInt8) (p:List UInt8 × List UInt8),quotR l=some p→p.1.length+p.2.length<l.length
 | [],_,h=>by cases h
 | c::l,p,h=>by
  unfold quotR at h
  split at h
  ·split at h
   ·cases h;simp
   ·cases hq:quotR l with
    | none=>rw [hq] at h;cases h
    | some q =>
     rw [hq] at h
     cases h
     have:=quotR_sum l q hq
     simp;omega
  ·cases h
def partV (n:Nat):Option (List UInt8 × List UInt8)→Value
 | none=>.tuple #[.string ⟨#[]⟩,.int .i64 0,.bool false]
 | some p=>.tuple #[.string ⟨p.1.toArray⟩,.int .i64 ((n-p.2.length:Nat):Int),.bool true]
theorem plC_iff (c:UInt8):plC c=true↔33≤c.toNat∧c.toNat≤126∧c≠35∧c≠34:=by simp [plC,and_assoc]
theorem c_ne {c d:UInt8} (h:c≠d):((c.toNat:Int) != (d.toNat:Int))=true:=by rw [bne,c_no h];rfl
theorem c_eqv {c d:UInt8} (h:c=d):((c.toNat:Int) != (d.toNat:Int))=false:=by subst h;simp
theorem quot_step1 {c:UInt8} {t:List UInt8} (h:c≠34) (hp:prC c=true):quotR (c::t)=(quotR t).map fun p=>(c::p.1,p.2):=by rw [quotR,if_pos hp,if_neg h]
theorem quot_step2 (t:List UInt8):quotR (34::t)=some ([],t):=rfl
theorem quot_step3 {c:UInt8} {t:List UInt8} (hp:prC c=false):quotR (c::t)=none:=by rw [quotR,if_neg (by rw [hp];decide)]
theorem field_step1 {c:UInt8} {t acc:List UInt8} {n:Nat} (h:plC c=true):fieldR (n+1) (c::t) acc=fieldR n t (acc++[c]):=by rw [fieldR,if_pos h]
theorem field_step2 {t acc:List UInt8} {n:Nat} : fieldR (n+1) (34::t) acc=match quotR t with | none=>none | some p=>fieldR n p.2 (acc++p.1):=rfl
theorem field_step3 {c:UInt8} {t acc:List UInt8} {n:Nat} (h:plC c=false) (h34:c≠34):fieldR (n+1) (c::t) acc=some (acc,c::t):=by rw [fieldR,if_neg (by rw [h];decide),if_neg h34]
theorem rf_step1 {c:UInt8} {t:List UInt8} {out:List (List UInt8)} {n:Nat} (h35:c≠35) (h:c=32∨c=9):rfGo (n+1) (c::t) out=rfGo n t out:=by rw [rfGo,if_neg h35,if_pos h]
theorem rf_step2 {c:UInt8} {t:List UInt8} {out:List (List UInt8)} {n:Nat} (h35:c≠35) (h:¬(c=32∨c=9)) (h2:plC c=false) (h34:c≠34):rfGo (n+1) (c::t) out=([],5):=by rw [rfGo,if_neg h35,if_neg h,if_pos ⟨h2,h34⟩]
theorem rf_step3 {c:UInt8} {t:List UInt8} {out:List (List UInt8)} {n:Nat} (h35:c≠35) (h:¬(c=32∨c=9)) (h2:plC c=true∨c=34):rfGo (n+1) (c::t) out=match fieldR ((c::t).length+1) (c::t) [] with | none=>([],5) | some p=>rfGo n p.2 (out++[p.1]):=by
 rw [rfGo,if_neg h35,if_neg h,if_neg (by rintro ⟨h3,h4⟩;rcases h2 with h2|h2;rw [h2] at h3;cases h3;exact h4 h2)]
 all_goals rfl
theorem ext_list (s:ByteArray) (i j:Nat):s.extract i j=⟨((s.data.toList.drop i).take (j-i)).toArray⟩:=by
 apply ByteArray.ext
 apply Array.toList_inj.1
 simp
theorem take_snoc_ {L:List UInt8} {i j:Nat} (hij:i≤j) (hj:j<L.length):(L.drop i).take (j+1-i)=(L.drop i).take (j-i)++[L[j]]:=by
 have h:j-i<(L.drop i).length:=by simp;omega
 rw [show j+1-i=(j-i)+1 by omega,List.take_succ_eq_append_getElem h]
 simp [show i+(j-i)=j by omega]
theorem bapp (a b:List UInt8):(⟨a.toArray⟩:ByteArray)++⟨b.toArray⟩=⟨(a++b).toArray⟩:=by
 apply ByteArray.ext
 simp [ByteArray.data_append]
theorem r5plain_any (c:UInt8) (w:World):Calls Tryz.prog 82 #[.int .u8 (c.toNat:Int)] w fun e w'=>e=.returned (.bool (plC c))∧w=w':=by
 by_cases h1:33≤c.toNat
 ·have d1:decide ((33:Int)≤(c.toNat:Int))=true:=by simp;omega
  by_cases h2:c.toNat≤126
  ·have d2:decide ((c.toNat:Int)≤126)=true:=by simp;omega
   by_cases h3:c=35
   ·have d3:((c.toNat:Int) != 35)=false:=c_eqv (d:=35) h3
    rw [show plC c=false from by rw [h3];rfl];clear h3
    go_enter Tryz.func82,Tryz.ntmps82;go_wp2_with fail
    go_ret
    exact ⟨rfl,rfl⟩
   ·have d3:((c.toNat:Int) != 35)=true:=c_ne (d:=35) h3
    by_cases h4:c=34
    ·have d4:((c.toNat:Int) != 34)=false:=c_eqv (d:=34) h4
     rw [show plC c=false from by rw [h4];rfl];clear h4 h3
     go_enter Tryz.func82,Tryz.ntmps82;go_wp2_with fail
     go_ret
     exact ⟨rfl,rfl⟩
    ·have d4:((c.toNat:Int) != 34)=true:=c_ne (d:=34) h4
     rw [show plC c=true from (plC_iff c).2 ⟨h1,h2,h3,h4⟩];clear h3 h4
     go_enter Tryz.func82,Tryz.ntmps82;go_wp2_with fail
     go_ret
     exact ⟨rfl,rfl⟩
  ·have d2:decide ((c.toNat:Int)≤126)=false:=by simp;omega
   rw [show plC c=false from by rw [Bool.eq_false_iff];intro h;exact h2 ((plC_iff c).1 h).2.1]
   go_enter Tryz.func82,Tryz.ntmps82;go_wp2_with fail
   go_ret
   exact ⟨rfl,rfl⟩
 ·have d1:decide ((33:Int)≤(c.toNat:Int))=false:=by simp;omega
  rw [show plC c=false from by rw [Bool.eq_false_iff];intro h;exact h1 ((plC_iff c).1 h).1]
  go_enter Tryz.func82,Tryz.ntmps82;go_wp2_with fail
  go_ret
  exact ⟨rfl,rfl⟩
theorem r5quoted_any (s:ByteArray) (i:Nat) (w:World) (hs:s.size≤1048576) (hi:i≤s.size):Calls Tryz.prog 109 #[.string s,.int .i64 (i:Int)] w fun e w'=>e=.returned (partV s.size (quotR (s.data.toList.drop i)))∧w=w':=by
 go_enter Tryz.func109,Tryz.ntmps109;go_wp2_with fail
 go_loopw [7] (fun jv wr=>∃j:Nat,i≤j∧j≤s.size∧jv=.int .i64 (j:Int)∧Hid (quotR (s.data.toList.drop i)=(quotR (s.data.toList.drop j)).map fun p=>((s.data.toList.drop i).take (j-i)++p.1,p.2))∧wr=w) (fun jv _=>s.size-(intOf jv).toNat)
 case atStart=>exact ⟨i,Nat.le_refl _,hi,rfl,Lib.hid (by cases quotR (s.data.toList.drop i)<;>simp),rfl⟩
 case round =>
  obtain ⟨j,hij,hj,rfl,HQ,rfl⟩:=hrel
  by_cases hlt:j<s.size
  ·have hkl:j<s.data.toList.length:=by simpa using hlt
   obtain ⟨c,hc⟩:∃c:UInt8,c=s[j]'hlt:=⟨_,rfl⟩;have g0:∀h,(s[j]'h)=c:=fun _=>hc.symm
   have HD:=Lib.hid (show s.data.toList.drop j=c::s.data.toList.drop (j+1) from by rw [drop_at_ hkl,hc];rfl);have HGC:=Lib.hid (show s.data.toList[j]=c from by rw [hc];rfl);have hd2:decide (j<s.size)=true:=by simp [hlt]
   have hd3:decide ((j:Int)<(s.size:Int))=true:=by simp;omega
   clear hc
   by_cases h1:32≤c.toNat
   ·have d1:decide ((32:Int)≤(c.toNat:Int))=true:=by simp;omega
    by_cases h2:c.toNat≤126
    ·have d2:decide ((c.toNat:Int)≤126)=true:=by simp;omega
     by_cases h3:c=34
     ·have HF:=Lib.hid (show quotR (s.data.toList.drop i)=some ((s.data.toList.drop i).take (j-i),s.data.toList.drop (j+1)) from by rw [HQ.out,HD.out,h3,quot_step2];simp)
      have q34:((c.toNat:Int)==34)=true:=by subst h3;rfl
      have hsl:decide (i≤j)=true:=by simp [hij]
      have hj1:IntKind.i64.wrap ((j:Int)+1)=((j+1:Nat):Int):=by rw [IntWalk.i64_in _ (by omega)];omega
      clear HQ HD HGC h3;go_wp2_with fail
      go_ret3
      refine ⟨?_,rfl⟩;rw [HF.out];unfold partV;simp only [ext_list,List.length_drop,ByteArray.size_data,Array.length_toList]
      congr 4<;>first|rfl|(simp<;>omega)
     ·have HQ2:=Lib.hid (show quotR (s.data.toList.drop i)=(quotR (s.data.toList.drop (j+1))).map fun p=>((s.data.toList.drop i).take (j+1-i)++p.1,p.2) from by
       rw [HQ.out,HD.out,quot_step1 h3 (by unfold prC;simp [h1,h2]),take_snoc_ hij hkl,HGC.out]
       cases quotR (s.data.toList.drop (j+1))<;>simp)
      have q34:((c.toNat:Int)==34)=false:=c_no (d:=34) h3;clear HQ HD HGC h3;go_wp2_with fail
      go_roundw
      case rel=>exact ⟨j+1,by omega,by omega,by go_num,HQ2,trivial⟩
      case measure=>simp [intOf];omega
    ·have d2:decide ((c.toNat:Int)≤126)=false:=by simp;omega
     have HF:=Lib.hid (show quotR (s.data.toList.drop i)=none from by rw [HQ.out,HD.out,quot_step3 (by unfold prC;simp [h2])];rfl);clear HQ;go_wp2_with fail
     go_ret3
     exact ⟨by rw [HF.out];rfl,rfl⟩
   ·have d1:decide ((32:Int)≤(c.toNat:Int))=false:=by simp;omega
    have HF:=Lib.hid (show quotR (s.data.toList.drop i)=none from by rw [HQ.out,HD.out,quot_step3 (by unfold prC;simp [h1])];rfl);clear HQ;go_wp2_with fail
    go_ret3
    exact ⟨by rw [HF.out];rfl,rfl⟩
  ·obtain rfl:j=s.size:=by omega
   have hd2:decide ((s.size:Int)<(s.size:Int))=false:=by simp
   have HF:=Lib.hid (show quotR (s.data.toList.drop i)=none from by rw [HQ.out,show s.data.toList.drop s.size=[] from List.drop_of_length_le (by simp)];rfl);clear HQ;go_wp2_with fail
   go_ret3
   exact ⟨by rw [HF.out];rfl,rfl⟩
theorem r5field_any (s:ByteArray) (i:Nat) (w:World) (hs:s.size≤1048576) (hi:i≤s.size):Calls Tryz.prog 83 #[.string s,.int .i64 (i:Int)] w fun e w'=>e=.returned (partV s.size (fieldR (s.size+1) (s.data.toList.drop i) []))∧w=w':=by
 go_enter Tryz.func83,Tryz.ntmps83;go_wp2_with fail
 go_loopw [1,7] (fun iv sv wr=>∃(k:Nat) (acc:List UInt8),i≤k∧k≤s.size∧iv=.int .i64 (k:Int)∧sv=.string ⟨acc.toArray⟩∧acc.length≤k∧Hid (fieldR (s.size+1) (s.data.toList.drop i) []=fieldR (s.size+1) (s.data.toList.drop k) acc)∧wr=w) (fun iv _ _=>s.size-(intOf iv).toNat)
 case atStart=>exact ⟨i,[],Nat.le_refl _,hi,rfl,rfl,Nat.zero_le _,Lib.hid rfl,rfl⟩
 case round =>
  obtain ⟨k,acc,hik,hk,rfl,rfl,hac,HI,rfl⟩:=hrel;have hln:s.data.toList.length=s.size:=by simp
  by_cases hlt:k<s.size
  ·have hkl:k<s.data.toList.length:=by simpa using hlt
   obtain ⟨c,hc⟩:∃c:UInt8,c=s[k]'hlt:=⟨_,rfl⟩;have g0:∀h,(s[k]'h)=c:=fun _=>hc.symm
   have HD:=Lib.hid (show s.data.toList.drop k=c::s.data.toList.drop (k+1) from by rw [drop_at_ hkl,hc];rfl);have HGC:=Lib.hid (show s.data.toList[k]=c from by rw [hc];rfl);have hd2:decide (k<s.size)=true:=by simp [hlt]
   have hd3:decide ((k:Int)<(s.size:Int))=true:=by simp;omega
   clear hc;have HP:=Lib.hid (r5plain_any c);have hdl:(s.data.toList.drop (k+1)).length<s.size:=by simp;omega
   cases hpl:plC c with
   | true =>
    rw [hpl] at HP;have HI2:=Lib.hid (show fieldR (s.size+1) (s.data.toList.drop i) []=fieldR (s.size+1) (s.data.toList.drop (k+1)) (acc++[c]) from by rw [HI.out,HD.out,field_step1 hpl];exact fieldR_fuel _ _ _ _ hdl (by omega));have HE:=Lib.hid (show (⟨acc.toArray⟩:ByteArray)++s.extract k (k+1)=⟨(acc++[c]).toArray⟩ from by rw [ext_list,HD.out,show k+1-k=1 by omega,bapp];rfl);have hz:(⟨acc.toArray⟩:ByteArray).size≤1048576:=by simp [ByteArray.size];omega
    have hz2:(s.extract k (k+1)).size≤1048576:=by rw [ByteArray.size_extract];omega
    clear HI HD HGC hpl hdl hln;go_wp2_with (first|(go_at_call 82;refine (HP.out _).mono ?_;rintro e w1 ⟨rfl,rfl⟩)|fail)
    go_roundw
    case rel=>exact ⟨k+1,acc++[c],by omega,by omega,by go_num,by rw [←HE.out],by simp;omega,HI2,trivial⟩
    case measure=>simp [intOf];omega
   | false =>
    rw [hpl] at HP
    by_cases h34:c=34
    ·have hk1:k+1≤s.size:=hlt
     have HQ:=Lib.hid (r5quoted_any s (k+1) wr hs hk1);rw [show ((k+1:Nat):Int)=(k:Int)+1 from by omega] at HQ
     cases hqr:quotR (s.data.toList.drop (k+1)) with
     | none =>
      have HF:=Lib.hid (show fieldR (s.size+1) (s.data.toList.drop i) []=none from by rw [HI.out,HD.out,h34,field_step2,hqr]);have q34:((c.toNat:Int)==34)=true:=by subst h34;rfl
      rw [hqr] at HQ;unfold partV at HQ;clear HI HD HGC hpl hdl hln h34 hqr hk1;go_wp2_with (first|(go_at_call 82;refine (HP.out _).mono ?_;rintro e w1 ⟨rfl,rfl⟩)|fail)
      refine HQ.out.mono ?_;rintro e w1 ⟨rfl,rfl⟩;go_wp2_with fail
      go_ret3
      exact ⟨by rw [HF.out];rfl,rfl⟩
     | some pp =>
      obtain ⟨p1,p2⟩:=pp;have hsm:=quotR_sum _ _ hqr;have hsf:=drop_suf (quotR_suf _ _ hqr);simp only at hsm hsf;have HI2:=Lib.hid (show fieldR (s.size+1) (s.data.toList.drop i) []=fieldR (s.size+1) (s.data.toList.drop (s.size-p2.length)) (acc++p1) from by rw [HI.out,HD.out,h34,field_step2,hqr,←hln,hsf];exact fieldR_fuel _ _ _ _ (by simp only;omega) (by simp only;omega));have q34:((c.toNat:Int)==34)=true:=by subst h34;rfl
      rw [hqr] at HQ;unfold partV at HQ;simp only at HQ;have hdk:(s.data.toList.drop (k+1)).length=s.size-(k+1):=by simp
      obtain ⟨k2,hk2⟩:∃k2,s.size-p2.length=k2:=⟨_,rfl⟩;rw [hk2] at HQ HI2;have hk3:k+1≤k2∧k2≤s.size∧acc.length+p1.length≤k2:=by omega
      have HK:=Lib.hid hk3;have hz:(⟨acc.toArray⟩:ByteArray).size≤1048576:=by simp [ByteArray.size];omega
      have hz2:(⟨p1.toArray⟩:ByteArray).size≤1048576:=by simp [ByteArray.size];omega
      clear HI HD HGC hpl hdl hln h34 hqr hk1 hsm hsf hdk hk2 hk3;go_wp2_with (first|(go_at_call 82;refine (HP.out _).mono ?_;rintro e w1 ⟨rfl,rfl⟩)|fail)
      refine HQ.out.mono ?_;rintro e w1 ⟨rfl,rfl⟩;go_wp2_with fail
      go_roundw
      case rel=>exact ⟨k2,acc++p1,by have:=HK.out;omega,HK.out.2.1,rfl,by rw [bapp],by have:=HK.out;simp;omega,HI2,trivial⟩
      case measure=>have:=HK.out;simp [intOf];omega
    ·have q34:((c.toNat:Int)==34)=false:=c_no (d:=34) h34
     have HF:=Lib.hid (show fieldR (s.size+1) (s.data.toList.drop i) []=some (acc,s.data.toList.drop k) from by rw [HI.out,HD.out,field_step3 hpl h34]);clear HI;go_wp2_with (first|(go_at_call 82;refine (HP.out _).mono ?_;rintro e w1 ⟨rfl,rfl⟩)|fail)
     go_ret3
     refine ⟨?_,rfl⟩;rw [HF.out];unfold partV;simp only [List.length_drop,ByteArray.size_data,Array.length_toList]
     congr 4<;>first|rfl|(simp<;>omega)
  ·obtain rfl:k=s.size:=by omega
   have hd2:decide ((s.size:Int)<(s.size:Int))=false:=by simp
   have hd3:decide (s.size<s.size)=false:=by simp
   have HF:=Lib.hid (show fieldR (s.size+1) (s.data.toList.drop i) []=some (acc,s.data.toList.drop s.size) from by rw [HI.out,show s.data.toList.drop s.size=[] from List.drop_of_length_le (by simp)];rfl);clear HI;go_wp2_with fail
   go_ret3
   refine ⟨?_,rfl⟩;rw [HF.out];unfold partV;simp only [List.length_drop,ByteArray.size_data,Array.length_toList]
   congr 4<;>first|rfl|(simp<;>omega)
theorem r5fields_any (s:ByteArray) (w:World) (hs:s.size≤1048576):Calls Tryz.prog 57 #[.string s] w fun e w'=>FieldsPost s.data.toList w e w'∧Below w.heap.size w w':=by
 by_cases h300:300<s.size
 ·have hd:decide ((300:Int)<(s.size:Int))=true:=by simp;omega
  have HF:=Lib.hid (show fieldsR s.data.toList=([],6) from by unfold fieldsR;rw [if_pos (by simpa using h300)])
  go_enter Tryz.func57,Tryz.ntmps57;go_wp2_with fail
  go_ret2
  exact ⟨.inr ⟨by rw [HF.out];decide,by rw [HF.out];rfl⟩,Below.refl _ _⟩
 ·have hd:decide ((300:Int)<(s.size:Int))=false:=by simp;omega
  have hs3:s.size≤300:=by omega
  have HS:=Lib.hid (show fieldsR s.data.toList=rfGo (s.size+1) s.data.toList [] from by unfold fieldsR;rw [if_neg (by simpa using h300)];exact (rfGo_is _ _ _ (by simp)).symm);obtain ⟨ist,zst,hist,hzst,hszst,hbyst,hzcst⟩:=info_st (P:=Tryz.prog) (e:=9) (k:=1) (by kernel_rfl);clear h300
  go_enter Tryz.func57,Tryz.ntmps57;go_wp2_with fail
  go_loopw [4,5] (fun ov iv wr=>∃(k:Nat) (out:List (List UInt8)),k≤s.size∧iv=.int .i64 (k:Int)∧out.length≤k∧Hid (wr.ownsRow w.heap.size 9 1 ov out.length (flatC encS out))∧Hid (Below w.heap.size w wr)∧Hid (fieldsR s.data.toList=rfGo (s.size+1) (s.data.toList.drop k) out)) (fun _ iv _=>s.size-(intOf iv).toNat)
  case atStart=>exact ⟨0,[],Nat.zero_le _,rfl,Nat.zero_le _,Lib.hid (World.ownsRow_nil ..),Lib.hid (Below.refl _ _),HS⟩
  case round =>
   obtain ⟨k,out,hk,rfl,hol,HO,HB,HI⟩:=hrel;have hln:s.data.toList.length=s.size:=by simp
   by_cases hlt:k<s.size
   ·have hkl:k<s.data.toList.length:=by simpa using hlt
    obtain ⟨c,hc⟩:∃c:UInt8,c=s[k]'hlt:=⟨_,rfl⟩;have g0:∀h,(s[k]'h)=c:=fun _=>hc.symm
    have HD:=Lib.hid (show s.data.toList.drop k=c::s.data.toList.drop (k+1) from by rw [drop_at_ hkl,hc];rfl);have HGC:=Lib.hid (show s.data.toList[k]=c from by rw [hc];rfl);have hd2:decide (k<s.size)=true:=by simp [hlt]
    have hd3:decide ((k:Int)<(s.size:Int))=true:=by simp;omega
    clear hc;have HP:=Lib.hid (r5plain_any c);have hdl:(s.data.toList.drop (k+1)).length<s.size:=by simp;omega
    by_cases h35:c=35
    ·have HF:=Lib.hid (show fieldsR s.data.toList=(out,0) from by rw [HI.out,HD.out,h35];rfl)
     have n35:((c.toNat:Int) != 35)=false:=c_eqv (d:=35) h35;clear HI HD HGC h35 hdl hln;go_wp2_with (first|(go_at_call 82;refine (HP.out _).mono ?_;rintro e w1 ⟨rfl,rfl⟩)|fail)
     go_ret2
     exact ⟨FieldsPost.good HF.out HO.out,HB.out⟩
    ·have n35:((c.toNat:Int) != 35)=true:=c_ne (d:=35) h35
     by_cases hsp:c=32∨c=9
     ·have HI2:=Lib.hid (show fieldsR s.data.toList=rfGo (s.size+1) (s.data.toList.drop (k+1)) out from by rw [HI.out,HD.out,rf_step1 h35 hsp];exact rfGo_fuel _ _ _ _ hdl (by omega))
      clear HI HD HGC h35 hdl hln
      rcases hsp with h|h
      ·have q32:((c.toNat:Int)==32)=true:=by rw [h];rfl
       clear h;go_wp2_with (first|(go_at_call 82;refine (HP.out _).mono ?_;rintro e w1 ⟨rfl,rfl⟩)|fail)
       go_roundw
       case rel=>exact ⟨k+1,out,by omega,by go_num,by omega,HO,HB,HI2⟩
       case measure=>simp [intOf];omega
      ·have q32:((c.toNat:Int)==32)=false:=c_no (d:=32) (by rw [h];decide)
       have q9:((c.toNat:Int)==9)=true:=by rw [h];rfl
       clear h;go_wp2_with (first|(go_at_call 82;refine (HP.out _).mono ?_;rintro e w1 ⟨rfl,rfl⟩)|fail)
       go_roundw
       case rel=>exact ⟨k+1,out,by omega,by go_num,by omega,HO,HB,HI2⟩
       case measure=>simp [intOf];omega
     ·have h32:c≠32:=fun hh=>hsp (.inl hh)
      have h9:c≠9:=fun hh=>hsp (.inr hh)
      have q32:((c.toNat:Int)==32)=false:=c_no (d:=32) h32;have q9:((c.toNat:Int)==9)=false:=c_no (d:=9) h9;have HQ:=Lib.hid (r5field_any s k wr hs hk)
      have HR:=Lib.hid (show plC c=true∨c=34→fieldsR s.data.toList=match fieldR (s.size+1) (s.data.toList.drop k) [] with | none=>([],5) | some p=>rfGo s.size p.2 (out++[p.1]) from fun hh=>by
       rw [HI.out,HD.out,rf_step3 h35 hsp hh,fieldR_fuel (s.size+1) ((c::s.data.toList.drop (k+1)).length+1) _ _ (by simp;omega) (by omega)])
      have HBD:=Lib.hid (fun (h1:plC c=false) (h2:c≠34)=>show fieldsR s.data.toList=([],5) from by rw [HI.out,HD.out,rf_step2 h35 hsp h1 h2])
      have HSH:=Lib.hid (fun (hh:plC c=true∨c=34) p1 p2 (h:fieldR (s.size+1) (s.data.toList.drop k) []=some (p1,p2))=>show p2.length≤s.size-(k+1)∧s.data.toList.drop (s.size-p2.length)=p2 from by
       have h1:=drop_suf (fieldR_suf _ _ _ _ h);rw [hln] at h1;rw [HD.out] at h;have h2:=fieldR_short hh [] _ _ h;exact ⟨by simpa using h2,h1⟩)
      clear h32 h9 hsp h35 HI HD HGC
      cases hpl:plC c with
      | true =>
       rw [hpl] at HP;have HPL:=Lib.hid hpl;clear hpl
       cases hfr:fieldR (s.size+1) (s.data.toList.drop k) [] with
       | none =>
        rw [hfr] at HQ HR;unfold partV at HQ;clear hfr HSH HBD hdl hln;go_wp2_with (first|(go_at_call 82;refine (HP.out _).mono ?_;rintro e w1 ⟨rfl,rfl⟩)|fail)
        refine HQ.out.mono ?_;rintro e w1 ⟨rfl,rfl⟩;go_wp2_with fail
        go_ret2
        exact ⟨FieldsPost.bad (HR.out (.inl HPL.out)),HB.out⟩
       | some pp =>
        obtain ⟨p1,p2⟩:=pp;have hsf:=HSH.out (.inl HPL.out) p1 p2 hfr;rw [hfr] at HQ HR;unfold partV at HQ;simp only at HQ HR;obtain ⟨k2,hk2⟩:∃k2,s.size-p2.length=k2:=⟨_,rfl⟩;rw [hk2] at HQ hsf;have HK:=Lib.hid (show k+1≤k2∧k2≤s.size from by omega);have HI2:=Lib.hid (show fieldsR s.data.toList=rfGo (s.size+1) (s.data.toList.drop k2) (out++[p1]) from by rw [HR.out (.inl HPL.out),hsf.2];exact rfGo_fuel _ _ _ _ (by omega) (by omega));clear hfr HSH HBD HR hsf hk2 hdl hln;go_wp2_with (first|(go_at_call 82;refine (HP.out _).mono ?_;rintro e w1 ⟨rfl,rfl⟩)|fail)
        refine HQ.out.mono ?_;rintro e w1 ⟨rfl,rfl⟩;go_wp2_with (first|(at_builtin;refine wpList_append_any _ rfl (.tmp 54) (.tmp 56) 26 rfl w.heap.size 9 ist zst 1 ist.bytes Tryz.underlying26 hist hzst hszst rfl hzcst (by decide) _ _ _ rfl (HO.out.alloc _) (wr.heap.size+1) (some ⟨wr.heap.size,0,none⟩) 1 1 [.string ⟨p1.toArray⟩] rfl ?c0 ?c1 ?c2 ?c3 ?c4 ?_)|fail)
        case c0=>exact ⟨rfl,fun _=>⟨_,rfl,by simp,fun j u hu=>by rw [Addr.add_lit,Nat.zero_add];exact (show Blk (wr.alloc (.cells #[.string ⟨p1.toArray⟩] 9)) wr.heap.size 9 #[.string ⟨p1.toArray⟩] from Blk.new' _ _ _ rfl).cell_ (by simpa using hu)⟩⟩
        case c1=>intro u hu;simp only [List.mem_cons,List.not_mem_nil,or_false] at hu;subst hu;rfl
        case c2=>unfold maxLen;omega
        case c3 =>
         have:(out.length+1)*ist.bytes≤1000*1000:=Nat.mul_le_mul (by omega) hbyst
         omega
        case c4=>have:=HB.out.size;simp;omega
        intro v9 wb hown hgrow _;have HO2:=Lib.hid (show wb.ownsRow w.heap.size 9 1 v9 (out++[p1]).length (flatC encS (out++[p1])) from by rw [List.length_append,flatC_snoc];exact hown);have HB2:=Lib.hid (Below.grown (HB.out.alloc HB.out.size (.cells #[.string ⟨p1.toArray⟩] 9)) hgrow (by have:=HB.out.size;simp;omega) (own_base (HO.out.alloc (.cells #[.string ⟨p1.toArray⟩] 9))));clear hown hgrow;go_wp2_with fail
        go_roundw
        case rel=>exact ⟨k2,out++[p1],HK.out.2,rfl,by have:=HK.out;simp;omega,HO2,HB2,HI2⟩
        case measure=>have:=HK.out;simp [intOf];omega
      | false =>
       rw [hpl] at HP
       by_cases h34:c=34
       ·have n34:((c.toNat:Int) != 34)=false:=c_eqv (d:=34) h34
        have HPL:=Lib.hid h34;clear h34 hpl
        cases hfr:fieldR (s.size+1) (s.data.toList.drop k) [] with
        | none =>
         rw [hfr] at HQ HR;unfold partV at HQ;clear hfr HSH HBD hdl hln;go_wp2_with (first|(go_at_call 82;refine (HP.out _).mono ?_;rintro e w1 ⟨rfl,rfl⟩)|fail)
         refine HQ.out.mono ?_;rintro e w1 ⟨rfl,rfl⟩;go_wp2_with fail
         go_ret2
         exact ⟨FieldsPost.bad (HR.out (.inr HPL.out)),HB.out⟩
        | some pp =>
         obtain ⟨p1,p2⟩:=pp;have hsf:=HSH.out (.inr HPL.out) p1 p2 hfr;rw [hfr] at HQ HR;unfold partV at HQ;simp only at HQ HR;obtain ⟨k2,hk2⟩:∃k2,s.size-p2.length=k2:=⟨_,rfl⟩;rw [hk2] at HQ hsf;have HK:=Lib.hid (show k+1≤k2∧k2≤s.size from by omega);have HI2:=Lib.hid (show fieldsR s.data.toList=rfGo (s.size+1) (s.data.toList.drop k2) (out++[p1]) from by rw [HR.out (.inr HPL.out),hsf.2];exact rfGo_fuel _ _ _ _ (by omega) (by omega));clear hfr HSH HBD HR hsf hk2 hdl hln;go_wp2_with (first|(go_at_call 82;refine (HP.out _).mono ?_;rintro e w1 ⟨rfl,rfl⟩)|fail)
         refine HQ.out.mono ?_;rintro e w1 ⟨rfl,rfl⟩;go_wp2_with (first|(at_builtin;refine wpList_append_any _ rfl (.tmp 54) (.tmp 56) 26 rfl w.heap.size 9 ist zst 1 ist.bytes Tryz.underlying26 hist hzst hszst rfl hzcst (by decide) _ _ _ rfl (HO.out.alloc _) (wr.heap.size+1) (some ⟨wr.heap.size,0,none⟩) 1 1 [.string ⟨p1.toArray⟩] rfl ?c0 ?c1 ?c2 ?c3 ?c4 ?_)|fail)
         case c0=>exact ⟨rfl,fun _=>⟨_,rfl,by simp,fun j u hu=>by rw [Addr.add_lit,Nat.zero_add];exact (show Blk (wr.alloc (.cells #[.string ⟨p1.toArray⟩] 9)) wr.heap.size 9 #[.string ⟨p1.toArray⟩] from Blk.new' _ _ _ rfl).cell_ (by simpa using hu)⟩⟩
         case c1=>intro u hu;simp only [List.mem_cons,List.not_mem_nil,or_false] at hu;subst hu;rfl
         case c2=>unfold maxLen;omega
         case c3 =>
          have:(out.length+1)*ist.bytes≤1000*1000:=Nat.mul_le_mul (by omega) hbyst
          omega
         case c4=>have:=HB.out.size;simp;omega
         intro v9 wb hown hgrow _;have HO2:=Lib.hid (show wb.ownsRow w.heap.size 9 1 v9 (out++[p1]).length (flatC encS (out++[p1])) from by rw [List.length_append,flatC_snoc];exact hown);have HB2:=Lib.hid (Below.grown (HB.out.alloc HB.out.size (.cells #[.string ⟨p1.toArray⟩] 9)) hgrow (by have:=HB.out.size;simp;omega) (own_base (HO.out.alloc (.cells #[.string ⟨p1.toArray⟩] 9))));clear hown hgrow;go_wp2_with fail
         go_roundw
         case rel=>exact ⟨k2,out++[p1],HK.out.2,rfl,by have:=HK.out;simp;omega,HO2,HB2,HI2⟩
         case measure=>have:=HK.out;simp [intOf];omega
       ·have n34:((c.toNat:Int) != 34)=true:=c_ne (d:=34) h34
        have HF:=Lib.hid (HBD.out hpl h34);clear hpl h34 HQ HR HBD HSH hdl hln;go_wp2_with (first|(go_at_call 82;refine (HP.out _).mono ?_;rintro e w1 ⟨rfl,rfl⟩)|fail)
        go_ret2
        exact ⟨FieldsPost.bad HF.out,HB.out⟩
   ·obtain rfl:k=s.size:=by omega
    have hd2:decide ((s.size:Int)<(s.size:Int))=false:=by simp
    have hd3:decide (s.size<s.size)=false:=by simp
    have HF:=Lib.hid (show fieldsR s.data.toList=(out,0) from by have h0:s.data.toList.drop s.size=[]:=List.drop_of_length_le (by simp);rw [HI.out,h0];rfl);clear HI;go_wp2_with fail
    go_ret2
    exact ⟨FieldsPost.good HF.out HO.out,HB.out⟩
def R5Lines (s:List UInt8) (w:World) (e:Ending) (w':World):Prop :=
 ((nlR s).2.2=0∧∃v,e=.returned (.tuple #[v,.int .i64 0,.int .i64 0])∧w'.ownsRow w.heap.size 9 1 v (nlR s).1.length (flatC encS (nlR s).1))∨((nlR s).2.2≠0∧e=.returned (.tuple #[.slice none 0 0,.int .i64 (nlR s).2.1,.int .i64 (nlR s).2.2]))
theorem rl_at10 (t cur:List UInt8) (out:List (List UInt8)) (h:¬300<cur.length):rlGo (10::t) cur out=rlGo t [] (out++[cur]):=by rw [rlGo,if_pos rfl,if_neg h]
theorem rl_at10x (t cur:List UInt8) (out:List (List UInt8)) (h:300<cur.length):rlGo (10::t) cur out=([],(out.length:Int)+1,6):=by rw [rlGo,if_pos rfl,if_pos h]
theorem rl_atc {c:UInt8} (hc:c≠10) (t cur:List UInt8) (out:List (List UInt8)):rlGo (c::t) cur out=rlGo t (cur++[c]) out:=by rw [rlGo,if_neg hc]
theorem rl_end1 (out:List (List UInt8)) (h:out≠[]):rlGo [] [] out=(out,0,0):=by rw [rlGo,if_pos ⟨rfl,h⟩]
theorem rl_end2 {cur:List UInt8} {out:List (List UInt8)} (h:¬(cur=[]∧out≠[])) (h3:¬300<cur.length):rlGo [] cur out=(out++[cur],0,0):=by rw [rlGo,if_neg h,if_neg h3]
theorem rl_end3 {cur:List UInt8} {out:List (List UInt8)} (h:¬(cur=[]∧out≠[])) (h3:300<cur.length):rlGo [] cur out=([],(out.length:Int)+1,6):=by rw [rlGo,if_neg h,if_pos h3]
theorem r5lines_any (s:ByteArray) (w:World) (hs:s.size≤4000):Calls Tryz.prog 21 #[.string s] w fun e w'=>R5Lines s.data.toList w e w'∧Below w.heap.size w w':=by
 have hd:decide ((8388608:Int)<(s.size:Int))=false:=by simp;omega
 have HS:=Lib.hid (show nlR s.data.toList=rlGo s.data.toList [] [] from (rl_is _ (by simp;omega)).symm);obtain ⟨ist,zst,hist,hzst,hszst,hbyst,hzcst⟩:=info_st (P:=Tryz.prog) (e:=9) (k:=1) (by kernel_rfl)
 go_enter Tryz.func21,Tryz.ntmps21;go_wp2_with fail
 go_loopw [5,6,7] (fun ov bv iv wr=>∃(k b:Nat) (out:List (List UInt8)),k≤s.size+1∧b≤k∧out.length≤k∧iv=.int .i64 (k:Int)∧bv=.int .i64 (b:Int)∧Hid (wr.ownsRow w.heap.size 9 1 ov out.length (flatC encS out))∧Hid (Below w.heap.size w wr)∧Hid (k≤s.size→nlR s.data.toList=rlGo (s.data.toList.drop k) ((s.data.toList.drop b).take (k-b)) out)∧Hid (k=s.size+1→nlR s.data.toList=(out,0,0))∧Hid (out≠[]↔b≠0)) (fun _ _ iv _=>s.size+1-(intOf iv).toNat)
 case atStart=>exact ⟨0,0,[],by omega,by omega,Nat.zero_le _,rfl,rfl,Lib.hid (World.ownsRow_nil ..),Lib.hid (Below.refl _ _),Lib.hid (fun _=>HS.out),Lib.hid (fun h=>by omega),Lib.hid (by simp)⟩
 case round =>
  obtain ⟨k,b,out,hk,hb,hol,rfl,rfl,HO,HB,HI,HE,HN⟩:=hrel;have hln:s.data.toList.length=s.size:=by simp
  by_cases hlt:k<s.size
  ·have d0:decide ((k:Int)≤(s.size:Int))=true:=by simp;omega
   have hkl:k<s.data.toList.length:=by simpa using hlt
   obtain ⟨c,hc⟩:∃c:UInt8,c=s[k]'hlt:=⟨_,rfl⟩;have g0:∀h,(s[k]'h)=c:=fun _=>hc.symm
   have HD:=Lib.hid (show s.data.toList.drop k=c::s.data.toList.drop (k+1) from by rw [drop_at_ hkl,hc];rfl);have HGC:=Lib.hid (show s.data.toList[k]=c from by rw [hc];rfl);have hd2:decide (k<s.size)=true:=by simp [hlt]
   have hd3:decide ((k:Int)<(s.size:Int))=true:=by simp;omega
   clear hc;have hcl:((s.data.toList.drop b).take (k-b)).length=k-b:=by simp;omega
   have hw0:IntKind.i64.wrap ((k:Int)-(b:Int))=(k:Int)-(b:Int):=IntWalk.i64_in _ (by omega)
   by_cases h10:c=10
   ·have e1:((k:Int)==(s.size:Int))=false:=by rw [beq_eq_false_iff_ne];omega
    by_cases h3:300<((s.data.toList.drop b).take (k-b)).length
    ·have d3:decide ((300:Int)<(k:Int)-(b:Int))=true:=by simp;omega
     have n10:((c.toNat:Int) != 10)=false:=c_eqv (d:=10) h10;have HF:=Lib.hid (show nlR s.data.toList=([],(out.length:Int)+1,6) from by rw [HI.out (by omega),HD.out,h10,rl_at10x _ _ _ h3]);have HLN:=Lib.hid hol;obtain ⟨p9,d9,hu9⟩:=own_form HO.out;subst hu9;clear h10 HD HGC HI HE HS hln hcl h3;go_wp2_with fail
     go_ret3
     exact ⟨.inr ⟨by rw [HF.out];show (6:Int)≠0;decide,by rw [HF.out];rfl⟩,HB.out⟩
    ·have d3:decide ((300:Int)<(k:Int)-(b:Int))=false:=by simp;omega
     have hsl:decide (b≤k)=true:=by simp [hb]
     have HI2:=Lib.hid (show nlR s.data.toList=rlGo (s.data.toList.drop (k+1)) [] (out++[(s.data.toList.drop b).take (k-b)]) from by rw [HI.out (by omega),HD.out,h10,rl_at10 _ _ _ h3]);have n10:((c.toNat:Int) != 10)=false:=c_eqv (d:=10) h10;clear h10 HD;clear HI HE HS HGC hln hcl h3;obtain ⟨x,hx⟩:∃x:List UInt8,(s.extract b k)=⟨x.toArray⟩:=⟨_,ext_list s b k⟩;have HX:=Lib.hid (show x=(s.data.toList.drop b).take (k-b) from by rw [ext_list] at hx;simpa using hx.symm);go_wp2_with (first|(at_builtin;refine wpList_append_any _ rfl (.tmp 49) (.tmp 54) 26 rfl w.heap.size 9 ist zst 1 ist.bytes Tryz.underlying26 hist hzst hszst rfl hzcst (by decide) _ _ _ rfl (HO.out.alloc _) (wr.heap.size+1) (some ⟨wr.heap.size,0,none⟩) 1 1 [.string ⟨x.toArray⟩] rfl ?c0 ?c1 ?c2 ?c3 ?c4 ?_)|fail)
     case c0=>exact ⟨rfl,fun _=>⟨_,rfl,by simp,fun j u hu=>by rw [Addr.add_lit,Nat.zero_add];exact (show Blk (wr.alloc (.cells #[.string ⟨x.toArray⟩] 9)) wr.heap.size 9 #[.string ⟨x.toArray⟩] from Blk.new' _ _ _ rfl).cell_ (by simpa using hu)⟩⟩
     case c1=>intro u hu;simp only [List.mem_cons,List.not_mem_nil,or_false] at hu;subst hu;rfl
     case c2=>unfold maxLen;omega
     case c3 =>
      have:(out.length+1)*ist.bytes≤5000*1000:=Nat.mul_le_mul (by omega) hbyst
      omega
     case c4=>have:=HB.out.size;simp;omega
     intro v9 wb hown hgrow _;have HO2:=Lib.hid (show wb.ownsRow w.heap.size 9 1 v9 (out++[x]).length (flatC encS (out++[x])) from by rw [List.length_append,flatC_snoc];exact hown);have HB2:=Lib.hid (Below.grown (HB.out.alloc HB.out.size (.cells #[.string ⟨x.toArray⟩] 9)) hgrow (by have:=HB.out.size;simp;omega) (own_base (HO.out.alloc (.cells #[.string ⟨x.toArray⟩] 9))));clear hown hgrow;go_wp2_with fail
     go_roundw
     case rel=>exact ⟨k+1,k+1,out++[x],by omega,by omega,by simp;omega,by go_num,by go_num,HO2,HB2,Lib.hid (fun _=>by rw [HI2.out,HX.out];simp),Lib.hid (fun h=>by omega),Lib.hid (by simp)⟩
     case measure=>simp [intOf]<;>omega
   ·have n10:((c.toNat:Int) != 10)=true:=c_ne (d:=10) h10
    have HI2:=Lib.hid (show nlR s.data.toList=rlGo (s.data.toList.drop (k+1)) ((s.data.toList.drop b).take (k+1-b)) out from by rw [HI.out (by omega),HD.out,rl_atc h10,take_snoc_ hb hkl,HGC.out]);clear HI HE HS HD HGC h10 hln hcl;go_wp2_with fail
    go_roundw
    case rel=>exact ⟨k+1,b,out,by omega,by omega,by omega,by go_num,rfl,HO,HB,Lib.hid (fun _=>HI2.out),Lib.hid (fun h=>by omega),HN⟩
    case measure=>simp [intOf]<;>omega
  ·by_cases hke:k=s.size
   ·subst hke
    have h0:s.data.toList.drop s.size=[]:=List.drop_of_length_le (by simp);have hI:=HI.out (Nat.le_refl _);rw [h0] at hI;have HI1:=Lib.hid hI;clear HI hI h0;have hcl:((s.data.toList.drop b).take (s.size-b)).length=s.size-b:=by simp
    have hw0:IntKind.i64.wrap ((s.size:Int)-(b:Int))=(s.size:Int)-(b:Int):=IntWalk.i64_in _ (by omega);have e0:decide ((s.size:Int)<(s.size:Int))=false:=by simp
    have e1:((s.size:Int)==(s.size:Int))=true:=by simp
    have e2:decide ((s.size:Int)≤(s.size:Int))=true:=by simp
    by_cases hbs:b=s.size
    ·have e3:((b:Int)==(s.size:Int))=true:=by rw [beq_iff_eq];omega
     by_cases h00:s.size=0
     ·have e4:decide ((0:Int)<(s.size:Int))=false:=decide_eq_false (by omega)
      have e5:decide (0<s.size)=false:=decide_eq_false (by omega);have hno:¬((s.data.toList.drop b).take (s.size-b)=[]∧out≠[]):=fun hh=>HN.out.1 hh.2 (by omega)
      by_cases h3:300<((s.data.toList.drop b).take (s.size-b)).length
      ·have d3:decide ((300:Int)<(s.size:Int)-(b:Int))=true:=by simp;omega
       exact absurd h3 (by rw [hcl];omega)
      ·have d3:decide ((300:Int)<(s.size:Int)-(b:Int))=false:=by simp;omega
       have hsl:decide (b≤s.size)=true:=by simp [hb]
       have HF2:=Lib.hid (show nlR s.data.toList=(out++[(s.data.toList.drop b).take (s.size-b)],0,0) from by rw [HI1.out,rl_end2 hno h3]);clear hno HI1;clear hbs h00 HE HS hln hcl h3;obtain ⟨x,hx⟩:∃x:List UInt8,(s.extract b s.size)=⟨x.toArray⟩:=⟨_,ext_list s b s.size⟩;have HX:=Lib.hid (show x=(s.data.toList.drop b).take (s.size-b) from by rw [ext_list] at hx;simpa using hx.symm);go_wp2_with (first|(at_builtin;refine wpList_append_any _ rfl (.tmp 49) (.tmp 54) 26 rfl w.heap.size 9 ist zst 1 ist.bytes Tryz.underlying26 hist hzst hszst rfl hzcst (by decide) _ _ _ rfl (HO.out.alloc _) (wr.heap.size+1) (some ⟨wr.heap.size,0,none⟩) 1 1 [.string ⟨x.toArray⟩] rfl ?c0 ?c1 ?c2 ?c3 ?c4 ?_)|fail)
       case c0=>exact ⟨rfl,fun _=>⟨_,rfl,by simp,fun j u hu=>by rw [Addr.add_lit,Nat.zero_add];exact (show Blk (wr.alloc (.cells #[.string ⟨x.toArray⟩] 9)) wr.heap.size 9 #[.string ⟨x.toArray⟩] from Blk.new' _ _ _ rfl).cell_ (by simpa using hu)⟩⟩
       case c1=>intro u hu;simp only [List.mem_cons,List.not_mem_nil,or_false] at hu;subst hu;rfl
       case c2=>unfold maxLen;omega
       case c3 =>
        have:(out.length+1)*ist.bytes≤5000*1000:=Nat.mul_le_mul (by omega) hbyst
        omega
       case c4=>have:=HB.out.size;simp;omega
       intro v9 wb hown hgrow _;have HO2:=Lib.hid (show wb.ownsRow w.heap.size 9 1 v9 (out++[x]).length (flatC encS (out++[x])) from by rw [List.length_append,flatC_snoc];exact hown);have HB2:=Lib.hid (Below.grown (HB.out.alloc HB.out.size (.cells #[.string ⟨x.toArray⟩] 9)) hgrow (by have:=HB.out.size;simp;omega) (own_base (HO.out.alloc (.cells #[.string ⟨x.toArray⟩] 9))));clear hown hgrow;go_wp2_with fail
       go_roundw
       case rel=>exact ⟨s.size+1,s.size+1,out++[x],by omega,by omega,by simp;omega,by go_num,by go_num,HO2,HB2,Lib.hid (fun h=>by omega),Lib.hid (fun _=>by rw [HF2.out,HX.out]),Lib.hid (by simp)⟩
       case measure=>simp [intOf]<;>omega
     ·have e4:decide ((0:Int)<(s.size:Int))=true:=decide_eq_true (by omega)
      have e5:decide (0<s.size)=true:=decide_eq_true (by omega);have hon:out≠[]:=HN.out.2 (by omega);have HF2:=Lib.hid (show nlR s.data.toList=(out,0,0) from by rw [HI1.out,List.eq_nil_of_length_eq_zero (l:=(s.data.toList.drop b).take (s.size-b)) (by rw [hcl];omega),rl_end1 _ hon]);clear HI1 HE HS hln hcl hon h00 hbs;go_wp2_with fail
      go_roundw
      case rel=>exact ⟨s.size+1,b,out,by omega,by omega,by omega,by go_num,rfl,HO,HB,Lib.hid (fun h=>by omega),Lib.hid (fun _=>HF2.out),HN⟩
      case measure=>simp [intOf]<;>omega
    ·have e3:((b:Int)==(s.size:Int))=false:=by rw [beq_eq_false_iff_ne];omega
     have hno:¬((s.data.toList.drop b).take (s.size-b)=[]∧out≠[]):=fun hh=>by have:=congrArg List.length hh.1;rw [hcl] at this;simp at this;omega
     by_cases h3:300<((s.data.toList.drop b).take (s.size-b)).length
     ·have d3:decide ((300:Int)<(s.size:Int)-(b:Int))=true:=by simp;omega
      have HF:=Lib.hid (show nlR s.data.toList=([],(out.length:Int)+1,6) from by rw [HI1.out,rl_end3 hno h3]);have HLN:=Lib.hid hol;obtain ⟨p9,d9,hu9⟩:=own_form HO.out;subst hu9;clear hno HI1 HE HS hln hcl h3;go_wp2_with fail
      go_ret3
      exact ⟨.inr ⟨by rw [HF.out];show (6:Int)≠0;decide,by rw [HF.out];rfl⟩,HB.out⟩
     ·have d3:decide ((300:Int)<(s.size:Int)-(b:Int))=false:=by simp;omega
      have hsl:decide (b≤s.size)=true:=by simp [hb]
      have HF2:=Lib.hid (show nlR s.data.toList=(out++[(s.data.toList.drop b).take (s.size-b)],0,0) from by rw [HI1.out,rl_end2 hno h3]);clear hno HI1;clear HE HS hln hcl h3;obtain ⟨x,hx⟩:∃x:List UInt8,(s.extract b s.size)=⟨x.toArray⟩:=⟨_,ext_list s b s.size⟩;have HX:=Lib.hid (show x=(s.data.toList.drop b).take (s.size-b) from by rw [ext_list] at hx;simpa using hx.symm);go_wp2_with (first|(at_builtin;refine wpList_append_any _ rfl (.tmp 49) (.tmp 54) 26 rfl w.heap.size 9 ist zst 1 ist.bytes Tryz.underlying26 hist hzst hszst rfl hzcst (by decide) _ _ _ rfl (HO.out.alloc _) (wr.heap.size+1) (some ⟨wr.heap.size,0,none⟩) 1 1 [.string ⟨x.toArray⟩] rfl ?c0 ?c1 ?c2 ?c3 ?c4 ?_)|fail)
      case c0=>exact ⟨rfl,fun _=>⟨_,rfl,by simp,fun j u hu=>by rw [Addr.add_lit,Nat.zero_add];exact (show Blk (wr.alloc (.cells #[.string ⟨x.toArray⟩] 9)) wr.heap.size 9 #[.string ⟨x.toArray⟩] from Blk.new' _ _ _ rfl).cell_ (by simpa using hu)⟩⟩
      case c1=>intro u hu;simp only [List.mem_cons,List.not_mem_nil,or_false] at hu;subst hu;rfl
      case c2=>unfold maxLen;omega
      case c3 =>
       have:(out.length+1)*ist.bytes≤5000*1000:=Nat.mul_le_mul (by omega) hbyst
       omega
      case c4=>have:=HB.out.size;simp;omega
      intro v9 wb hown hgrow _;have HO2:=Lib.hid (show wb.ownsRow w.heap.size 9 1 v9 (out++[x]).length (flatC encS (out++[x])) from by rw [List.length_append,flatC_snoc];exact hown);have HB2:=Lib.hid (Below.grown (HB.out.alloc HB.out.size (.cells #[.string ⟨x.toArray⟩] 9)) hgrow (by have:=HB.out.size;simp;omega) (own_base (HO.out.alloc (.cells #[.string ⟨x.toArray⟩] 9))));clear hown hgrow;go_wp2_with fail
      go_roundw
      case rel=>exact ⟨s.size+1,s.size+1,out++[x],by omega,by omega,by simp;omega,by go_num,by go_num,HO2,HB2,Lib.hid (fun h=>by omega),Lib.hid (fun _=>by rw [HF2.out,HX.out]),Lib.hid (by simp)⟩
      case measure=>simp [intOf]<;>omega
   ·obtain rfl:k=s.size+1:=by omega
    have e2:decide (((s.size+1:Nat):Int)≤(s.size:Int))=false:=decide_eq_false (by omega);have e2b:decide ((s.size:Int)+1≤(s.size:Int))=false:=decide_eq_false (by omega);have HF:=Lib.hid (HE.out rfl);clear HI HE;go_wp2_with fail
    go_ret3
    exact ⟨.inl ⟨by rw [HF.out],_,rfl,by rw [HF.out];exact HO.out⟩,HB.out⟩
end Go.Proofs.YtciclddfhohieaaGreatDoor
