/-
  The reference's names of zones (layer 7): what each call returns.
-/
import Derived.Test.YtciclddfhohieaaGreatDoorPLink
import Derived.Test.YtciclddfhohieaaGreatDoorRefTen
set_option linter.unusedVariables false
set_option linter.unusedSimpArgs false
set_option maxRecDepth 100000
set_option maxHeartbeats 4000000
namespace Go.Proofs.YtciclddfhohieaaGreatDoor
open Go.RowKit
theorem part_kind:∀c:Fin 256,(kindN c.val &&& 31 != 0)=(letB c.val||digB c.val||decide (c.val=46)||decide (c.val=95)||decide (c.val=43)||decide (c.val=45)):=by decide +kernel
theorem part_u8 (c:UInt8):(kindN c.toNat &&& 31 != 0)=(letB c.toNat||digB c.toNat||decide (c.toNat=46)||decide (c.toNat=95)||decide (c.toNat=43)||decide (c.toNat=45)):=part_kind ⟨c.toNat,c.toNat_lt⟩
theorem ne_dec (c k:Nat) (r:Bool) (h:decide (c=k)=r):((c:Int) != (k:Int)) = !r:=by
 subst h
 by_cases h:c=k
 ·subst h;simp
 ·rw [decide_eq_false h];show ((c:Int) != (k:Int))=true;rw [bne_iff_ne];omega
theorem part_first {s:ByteArray} (h:0<s.size):s.data.toList.getD 0 0=s[0]'h:=by
 rw [List.getD_eq_getElem?_getD,List.getElem?_eq_getElem (by simpa using h)]
 rfl
theorem u8_ne {x:UInt8} {n:Nat} (h:x.toNat=n) (k:UInt8):(x=k)↔n=k.toNat:=by
 rw [←h];exact ⟨fun e=>by rw [e],fun e=>UInt8.toNat_inj.1 e⟩
theorem r7part_any (s:ByteArray) (w:World) (hs:s.size≤1048576) :
 Calls Tryz.prog 122 #[.string s] w fun e w'=>e=.returned (.bool (partB s.data.toList))∧w'=w:=by
 by_cases h1:1≤s.size∧s.size≤14
 ·obtain ⟨h1,h14⟩:=h1
  have z1:¬(s.size:Int)<1:=by omega
  have z14:¬14<(s.size:Int):=by omega
  obtain ⟨c0,hc0⟩:∃c:Nat,c=(s[0]'(by omega)).toNat:=⟨_,rfl⟩;have g00:∀h,(s[0]'h).toNat=c0:=fun _=>hc0.symm
  have hi0:(0:Int)<(s.size:Int):=by omega
  have hP:partB s.data.toList=(ofB 1 14 31 s.data.toList&&decide (c0≠46)&&decide (c0≠45)):=by
   unfold partB;rw [part_first (by omega)];rw [show (decide ((s[0]'(by omega))≠46))=decide (c0≠46) from decide_eq_decide.2 (not_congr (u8_ne hc0.symm 46)),show (decide ((s[0]'(by omega))≠45))=decide (c0≠45) from decide_eq_decide.2 (not_congr (u8_ne hc0.symm 45))]
  have HP:=Lib.hid hP;clear hP hc0
  by_cases e46:c0=46
  ·subst e46
   go_enter Tryz.func122,Tryz.ntmps122;go_wp2_with fail
   go_ret
   exact ⟨by rw [HP.out];simp,rfl⟩
  by_cases e45:c0=45
  ·subst e45
   go_enter Tryz.func122,Tryz.ntmps122;go_wp2_with fail
   go_ret
   exact ⟨by rw [HP.out];simp,rfl⟩
  have b46:((c0:Int)==46)=false:=by rw [beq_eq_false_iff_ne];omega
  have b45:((c0:Int)==45)=false:=by rw [beq_eq_false_iff_ne];omega
  have HS:=Lib.hid (show partB s.data.toList=ofB 1 14 31 s.data.toList by rw [HP.out];simp [e46,e45]);clear e46 e45 HP
  go_enter Tryz.func122,Tryz.ntmps122;go_wp2_with fail
  clear g00 hi0 b46 b45
  go_loop [3] (fun i=>∃k:Nat,k≤s.size∧i=.int .i64 (k:Int)∧Aside (∀j (hj:j<s.size),j<k→(kindN (s[j]'hj).toNat &&& 31 != 0)=true)) (fun i=>s.size-(intOf i).toNat)
  case atStart=>exact ⟨0,Nat.zero_le _,rfl,fun j _ hj=>absurd hj (by omega)⟩
  case round =>
   obtain ⟨k,hk,rfl,hall⟩:=hrel
   by_cases hlt:k<s.size
   ·obtain ⟨c,hc⟩:∃c:Nat,c=(s[k]'hlt).toNat:=⟨_,rfl⟩
    have g0:∀h,(s[k]'h).toNat=c:=fun _=>hc.symm
    have HK:=Lib.hid (show (kindN (s[k]'hlt).toNat &&& 31 != 0)=(letB c||digB c||decide (c=46)||decide (c=95)||decide (c=43)||decide (c=45)) by rw [part_u8,hc]);have HN:=Lib.hid hall.out;have hd:decide (k<s.size)=true:=by simp [hlt]
    clear hall hc;obtain ⟨r,hr⟩:∃r,letB c=r:=⟨_,rfl⟩;obtain ⟨q,hq⟩:∃r,digB c=r:=⟨_,rfl⟩;obtain ⟨p1,hp1⟩:∃r,decide (c=46)=r:=⟨_,rfl⟩;obtain ⟨p2,hp2⟩:∃r,decide (c=95)=r:=⟨_,rfl⟩;obtain ⟨p3,hp3⟩:∃r,decide (c=43)=r:=⟨_,rfl⟩;obtain ⟨p4,hp4⟩:∃r,decide (c=45)=r:=⟨_,rfl⟩;rw [hr,hq,hp1,hp2,hp3,hp4] at HK;have HL:=Lib.hid (fun w=>hr ▸ r7letter_any c w);have HD:=Lib.hid (fun w=>hq ▸ r7digit_any c w);have hne1:((c:Int) != 46) = !p1:=ne_dec c 46 p1 hp1;have hne2:((c:Int) != 95) = !p2:=ne_dec c 95 p2 hp2;have hne3:((c:Int) != 43) = !p3:=ne_dec c 43 p3 hp3;have hne4:((c:Int) != 45) = !p4:=ne_dec c 45 p4 hp4;clear hr hq hp1 hp2 hp3 hp4
    rcases (show r=true∨(r=false∧q=true)∨(r=false∧q=false∧p1=true)∨(r=false∧q=false∧p1=false∧p2=true)∨(r=false∧q=false∧p1=false∧p2=false∧p3=true)∨(r=false∧q=false∧p1=false∧p2=false∧p3=false∧p4=true)∨(r=false∧q=false∧p1=false∧p2=false∧p3=false∧p4=false) from by
     cases r<;>cases q<;>cases p1<;>cases p2<;>cases p3<;>cases p4<;>simp) with rfl | ⟨rfl,rfl⟩ | ⟨rfl,rfl,rfl⟩ | ⟨rfl,rfl,rfl,rfl⟩ | ⟨rfl,rfl,rfl,rfl,rfl⟩ | ⟨rfl,rfl,rfl,rfl,rfl,rfl⟩ | ⟨rfl,rfl,rfl,rfl,rfl,rfl⟩
    all_goals
     simp only [Bool.not_true,Bool.not_false,Bool.true_or,Bool.false_or,Bool.or_true,Bool.or_false] at hne1 hne2 hne3 hne4 HK;go_wp2_with (first|(go_at_call 162;refine (HL.out _).mono ?_;rintro e w1 ⟨rfl,rfl⟩)|(go_at_call 163;refine (HD.out _).mono ?_;rintro e w1 ⟨rfl,rfl⟩)|fail)
     first
      | (go_ret
         exact ⟨by rw [HS.out,ofB_no hlt HK.out];rfl,rfl⟩)
      | (go_round
         case rel =>
          refine ⟨k+1,by omega,by go_num,fun j hj hjk=>?_⟩
          by_cases h:j=k
          ·subst h;exact HK.out
          ·exact HN.out j hj (by omega)
         case measure=>simp [intOf];omega)
   ·obtain rfl:k=s.size:=by omega
    have hd:decide (s.size<s.size)=false:=by simp
    have HF:=Lib.hid (ofB_yes (a:=1) (b:=14) (m:=31) (s:=s) fun j hj=>hall.out j hj hj);have HT:=Lib.hid (show partB s.data.toList=true by rw [HS.out,HF.out];simp [h1,h14]);clear hall hlt hk;go_wp2_with fail
    go_ret
    exact ⟨by rw [HT.out];rfl,rfl⟩
 ·have HS:=Lib.hid (show partB s.data.toList=false by
   unfold partB ofB;rw [decide_eq_false (by simpa using h1)]
   rfl)
  rcases (by omega:(s.size:Int)<1∨(¬(s.size:Int)<1∧14<(s.size:Int))) with h|⟨h,h2⟩
  all_goals
   clear h1
   go_enter Tryz.func122,Tryz.ntmps122;go_wp2_with fail
   go_ret
   exact ⟨by rw [HS.out];rfl,rfl⟩
theorem list_mid (s:ByteArray) (i j:Nat):(s.extract i j).data.toList=(s.data.toList.drop i).take (j-i):=by simp
theorem r7zone_any (s:ByteArray) (w:World) (hs:s.size≤1048576) :
 Calls Tryz.prog 89 #[.string s] w fun e w'=>e=.returned (.bool (zoneB s.data.toList))∧w'=w:=by
 have HQ:=Lib.hid (fun (q:ByteArray) (w:World) (h:q.size≤1048576)=>r7part_any q w h)
 go_enter Tryz.func89,Tryz.ntmps89;go_wp2_with fail
 go_loop [3,4] (fun f i=>∃(a k:Nat),f=.int .i64 (a:Int)∧i=.int .i64 (k:Int)∧a≤k∧k≤s.size∧Hid (RZ s.data.toList a k)) (fun _ i=>s.size-(intOf i).toNat)
 case atStart=>exact ⟨0,0,rfl,rfl,Nat.le_refl _,Nat.zero_le _,Lib.hid (RZ.start _)⟩
 case round =>
  obtain ⟨a,k,rfl,rfl,hak,hk,HZ⟩:=hrel
  by_cases hlt:k<s.size
  ·have hd:decide (k<s.size)=true:=by simp [hlt]
   obtain ⟨c,hc⟩:∃c:Nat,c=(s[k]'hlt).toNat:=⟨_,rfl⟩;have g0:∀h,(s[k]'h).toNat=c:=fun _=>hc.symm
   have hk':k<s.data.toList.length:=by simpa using hlt
   have HC:=Lib.hid (show s.data.toList[k]'hk'=s[k]'hlt from rfl);have Hc:=Lib.hid hc;clear hc
   by_cases h47:c=47
   ·subst h47
    have H47:=Lib.hid (show s.data.toList[k]'hk'=47 by rw [HC.out];exact (u8_ne Hc.out.symm 47).2 rfl);have hp:=HQ.out (s.extract a k) w (size_part _ _ _ _ hs);rw [list_mid] at hp;obtain ⟨r,hr⟩:∃r,partB ((s.data.toList.drop a).take (k-a))=r:=⟨_,rfl⟩;rw [hr] at hp;have HR:=Lib.hid hr;have HP:=Lib.hid hp;clear hp hr HQ
    cases r with
    | true =>
     go_wp2_with fail
     refine HP.out.mono ?_;rintro e w1 ⟨rfl,rfl⟩;go_wp2_with fail
     go_round
     case rel=>exact ⟨k+1,k+1,by go_num,by go_num,Nat.le_refl _,by omega,Lib.hid (HZ.out.on hk' H47.out HR.out)⟩
     case measure=>simp [intOf];omega
    | false =>
     have HF:=Lib.hid (HZ.out.off hk' H47.out HR.out);go_wp2_with fail
     refine HP.out.mono ?_;rintro e w1 ⟨rfl,rfl⟩;go_wp2_with fail
     go_ret
     exact ⟨by rw [HF.out];rfl,rfl⟩
   ·have hb:((c:Int)==47)=false:=by rw [beq_eq_false_iff_ne];omega
    have H47:=Lib.hid (show s.data.toList[k]'hk'≠47 by rw [HC.out];exact fun e=>h47 ((u8_ne Hc.out.symm 47).1 e));go_wp2_with fail
    go_round
    case rel=>exact ⟨a,k+1,rfl,by go_num,by omega,by omega,Lib.hid (HZ.out.next hk' H47.out)⟩
    case measure=>simp [intOf];omega
  ·obtain rfl:k=s.size:=by omega
   have hd:decide (s.size<s.size)=false:=by simp
   have HA:=Lib.hid (show zallB s.data.toList=partB (s.data.toList.drop a) from by
    have h:=HZ.out;rw [show s.size=s.data.toList.length by simp] at h;exact h.done)
   have hp:=HQ.out (s.extract a s.size) w (size_part _ _ _ _ hs);rw [list_from] at hp;obtain ⟨r,hr⟩:∃r,partB (s.data.toList.drop a)=r:=⟨_,rfl⟩;rw [hr] at hp HA;have HP:=Lib.hid hp
   have HV:=Lib.hid (show zoneB s.data.toList=(decide (s.size≤60)&&r) from by
    unfold zoneB;rw [show (zparts s.data.toList).all partB=r from HA.out]
    simp)
   clear hp hr HQ HA
   by_cases h60:s.size≤60
   ·have e60:decide (s.size≤60)=true:=by simp [h60]
    cases r
    all_goals
     go_wp2_with fail
     refine HP.out.mono ?_;rintro e w1 ⟨rfl,rfl⟩;go_wp2_with fail
     go_ret
     exact ⟨by rw [HV.out];simp [h60]<;>omega,rfl⟩
   ·have e60:decide (s.size≤60)=false:=by simp [h60]
    cases r
    all_goals
     go_wp2_with fail
     refine HP.out.mono ?_;rintro e w1 ⟨rfl,rfl⟩;go_wp2_with fail
     go_ret
     exact ⟨by rw [HV.out];simp [h60]<;>omega,rfl⟩
end Go.Proofs.YtciclddfhohieaaGreatDoor
