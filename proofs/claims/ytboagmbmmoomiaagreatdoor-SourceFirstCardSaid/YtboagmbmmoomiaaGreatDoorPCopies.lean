/-
  slices.Equal at four types: what each call returns.
  printer.Same: what the call returns.
  slices.Clone at five types: what each call returns.
  printer.Copy: what the call returns.
-/
import Derived.Test.YtboagmbmmoomiaaGreatDoorPText
import Derived.Lib.SliceRun
import Derived.Test.YtboagmbmmoomiaaGreatDoorRelAll
set_option linter.unusedVariables false
set_option maxRecDepth 100000
set_option maxHeartbeats 4000000
namespace Go.Proofs.YtboagmbmmoomiaaGreatDoor
open Go.Lib (hid)
open Go.RowKit Go.Shelf
theorem relAt_load_arr {P:Program} {o:Oper} {a:Act} {w:World} (ty:TypeId) (x:Operand) (ho:o.op=.load ty x) (b f:Nat) (hx:a.eval x=.pointer (some ⟨b,f,none⟩)) (C:Array Value) (d:TypeDesc) (hg:w.rangeAt b f C.toList)
 (hu:P.underlying ty=some d) (hd:d.isRow=true) (hi:(P.info? ty).map (·.size)=some C.size):relAt P o a w fun u _=>u=.agg C:=by
 unfold relAt execOp;simp only [ho,hx,Instr.loadAt,Instr.sureAddr,Sem.run_bind,Sem.run_pure,Result.andThen_ok,run_loadVar_mid w b f ty C.toList d hg hu hd (by simpa using hi)];exact ⟨Below.refl _ _,by simp⟩
theorem take_eq {α:Type} {xs ys:List α} {k:Nat} {x y:α} (h:xs.take k=ys.take k) (hx:xs[k]? = some x) (hy:ys[k]? = some y) (e:x=y):xs.take (k+1)=ys.take (k+1):=by
 rw [List.take_add_one,List.take_add_one,h,hx,hy,e]
theorem take_ne {α:Type} {xs ys:List α} {k:Nat} {x y:α} (hx:xs[k]? = some x) (hy:ys[k]? = some y) (e:x≠y):xs≠ys:=fun h=>e (by rw [h,hy] at hx;exact (Option.some.inj hx).symm)
theorem equalRule_any (xs ys:List RuleP) (v u:Value) (w:World) (h1:RowsAt w w.heap.size 11 RuleP.cells v xs) (h2:RowsAt w w.heap.size 11 RuleP.cells u ys) (hl:xs.length≤1048576) (hl2:ys.length≤1048576) :
 Calls Tryz.prog 48 #[v,u] w fun e w'=>e=.returned (.bool (decide (xs=ys)))∧Below w.heap.size w w':=by
 obtain ⟨p1,c1,rfl,r1⟩:=h1;obtain ⟨p2,c2,rfl,r2⟩:=h2;have hTi:(Tryz.prog.info? 55).map (·.size)=some 11:=by kernel_rfl
 by_cases hn:xs.length=ys.length
 ·rw [hn] at hl ⊢
  have HR1:=hid r1;have HR2:=hid r2;clear r1 r2
  go_enter Tryz.func48,Tryz.ntmps48;go_wp2_with fail
  go_loopw [5,13] (fun _ i wr=>∃k:Nat,k≤ys.length∧i=.int .i64 (k:Int)∧Hid (xs.take k=ys.take k)∧Below w.heap.size w wr) (fun _ i _=>ys.length-(intOf i).toNat)
  case atStart=>exact ⟨0,Nat.zero_le _,rfl,hid rfl,Below.refl _ _⟩
  case round =>
   obtain ⟨k,hk,rfl,HA,hB⟩:=hrel
   by_cases hlt:k<ys.length
   ·obtain ⟨x,hx⟩:∃x,xs[k]? = some x:=⟨_,List.getElem?_eq_getElem (by omega)⟩
    obtain ⟨y,hy⟩:∃y,ys[k]? = some y:=⟨_,List.getElem?_eq_getElem hlt⟩;obtain ⟨b1,o1,rfl,hb1,ha1⟩:=HR1.out (by intro h;rw [h] at hn;simp at hn;omega);obtain ⟨b2,o2,rfl,hb2,ha2⟩:=HR2.out (by intro h;rw [h] at hlt;simp at hlt);have HC1:=hid (show wr.drew.rangeAt b1 (o1+k*11) (RuleP.cells x).toList from fun j v hv=>(hB.cell (p:=⟨b1,o1+k*11+j,none⟩) hb1).trans (ha1 k x hx j v hv));have HC2:=hid (show wr.drew.rangeAt b2 (o2+k*11) (RuleP.cells y).toList from fun j v hv=>(hB.cell (p:=⟨b2,o2+k*11+j,none⟩) hb2).trans (ha2 k y hy j v hv));have hd:decide ((k:Int)<(ys.length:Int))=true:=by simp;omega
    have k0:(0:Int)≤(k:Int):=by omega
    have kl:(k:Int)<(ys.length:Int):=by omega
    have HX:=hid hx;have HY:=hid hy;clear ha1 ha2 HR1 HR2 hx hy
    by_cases hxy:x=y
    ·subst hxy
     have HT:=hid (take_eq HA.out HX.out HY.out rfl);obtain ⟨nm1,fr1,tl1,mo1,⟨d11,d21,d31⟩,⟨h11,h21⟩,sv1,lt1⟩:=x;simp only [RuleP.cells] at HC1 HC2;clear HX HY HA;go_wp2_with fail
     refine wp_region_vals 9 (fun W=>W.rangeAt b1 (o1+k*11) [.string ⟨nm1.toArray⟩,.int .i64 fr1,.int .i64 tl1,.int .i64 mo1,.int .i64 d11,.int .i64 d21,.int .i64 d31,.int .i64 h11,.int .i64 h21,.int .i64 sv1,.string ⟨lt1.toArray⟩]∧W.rangeAt b2 (o2+k*11) [.string ⟨nm1.toArray⟩,.int .i64 fr1,.int .i64 tl1,.int .i64 mo1,.int .i64 d11,.int .i64 d21,.int .i64 d31,.int .i64 h11,.int .i64 h21,.int .i64 sv1,.string ⟨lt1.toArray⟩]∧Below w.heap.size w W) (by kernel_rfl) (by kernel_rfl) rfl ⟨HC1.out,HC2.out,hB.drew⟩
      (fun W W' h hb=>⟨fun j v hv=>(hb.cell (p:=⟨b1,o1+k*11+j,none⟩) (Nat.lt_of_lt_of_le hb1 h.2.2.size)).trans (h.1 j v hv),fun j v hv=>(hb.cell (p:=⟨b2,o2+k*11+j,none⟩) (Nat.lt_of_lt_of_le hb2 h.2.2.size)).trans (h.2.1 j v hv),h.2.2.trans (hb.mono h.2.2.size)⟩) ?_
     iterate 3
      apply exV_ex rfl ?_ (fun K hK=>?_)
      any_goals
       intro W hC;go_simp
       all_goals exact ⟨Below.refl _ _,rfl⟩
      any_goals
       revert hK
       intro hK;go_simp;refine hK _ ?_;clear hK K
     refine exV_ex rfl (fun W hC=>relAt_load_arr 55 (.tmp 18) rfl b1 (o1+k*11) rfl #[.string ⟨nm1.toArray⟩,.int .i64 fr1,.int .i64 tl1,.int .i64 mo1,.int .i64 d11,.int .i64 d21,.int .i64 d31,.int .i64 h11,.int .i64 h21,.int .i64 sv1,.string ⟨lt1.toArray⟩] _ hC.1 Tryz.underlying55 rfl hTi) (fun K hK=>?_)
     revert hK
     intro hK;go_simp;refine hK _ ?_;clear hK K
     iterate 3
      apply exV_ex rfl ?_ (fun K hK=>?_)
      any_goals
       intro W hC;go_simp
       all_goals exact ⟨Below.refl _ _,rfl⟩
      any_goals
       revert hK
       intro hK;go_simp;refine hK _ ?_;clear hK K
     refine exV_ex rfl (fun W hC=>relAt_load_arr 55 (.tmp 22) rfl b2 (o2+k*11) rfl #[.string ⟨nm1.toArray⟩,.int .i64 fr1,.int .i64 tl1,.int .i64 mo1,.int .i64 d11,.int .i64 d21,.int .i64 d31,.int .i64 h11,.int .i64 h21,.int .i64 sv1,.string ⟨lt1.toArray⟩] _ hC.2.1 Tryz.underlying55 rfl hTi) (fun K hK=>?_)
     revert hK
     intro hK;go_simp;refine hK _ ?_;clear hK K;refine exV_ex (v:=.bool false) rfl (fun W hC=>?_) (fun K hK=>?_)
     ·go_simp
      first|exact ⟨Below.refl _ _,rfl⟩|exact Below.refl _ _
     revert hK
     intro hK;go_simp;refine hK _ ?_;clear hK K;refine exV_end fun W hC=>(wpList_nil ?_)
     go_wp2_with fail
     go_roundw
     case rel=>exact ⟨k+1,by omega,by go_num,HT,hC.2.2⟩
     case measure=>simp [intOf];omega
    ·have HF:=hid (take_ne HX.out HY.out hxy)
     obtain ⟨nm1,fr1,tl1,mo1,⟨d11,d21,d31⟩,⟨h11,h21⟩,sv1,lt1⟩:=x;obtain ⟨nm2,fr2,tl2,mo2,⟨d12,d22,d32⟩,⟨h12,h22⟩,sv2,lt2⟩:=y;simp only [RuleP.cells] at HC1 HC2;clear HX HY HA;go_wp2_with fail
     refine wp_region_vals 9 (fun W=>W.rangeAt b1 (o1+k*11) [.string ⟨nm1.toArray⟩,.int .i64 fr1,.int .i64 tl1,.int .i64 mo1,.int .i64 d11,.int .i64 d21,.int .i64 d31,.int .i64 h11,.int .i64 h21,.int .i64 sv1,.string ⟨lt1.toArray⟩]∧W.rangeAt b2 (o2+k*11) [.string ⟨nm2.toArray⟩,.int .i64 fr2,.int .i64 tl2,.int .i64 mo2,.int .i64 d12,.int .i64 d22,.int .i64 d32,.int .i64 h12,.int .i64 h22,.int .i64 sv2,.string ⟨lt2.toArray⟩]∧Below w.heap.size w W) (by kernel_rfl) (by kernel_rfl) rfl ⟨HC1.out,HC2.out,hB.drew⟩
      (fun W W' h hb=>⟨fun j v hv=>(hb.cell (p:=⟨b1,o1+k*11+j,none⟩) (Nat.lt_of_lt_of_le hb1 h.2.2.size)).trans (h.1 j v hv),fun j v hv=>(hb.cell (p:=⟨b2,o2+k*11+j,none⟩) (Nat.lt_of_lt_of_le hb2 h.2.2.size)).trans (h.2.1 j v hv),h.2.2.trans (hb.mono h.2.2.size)⟩) ?_
     iterate 3
      apply exV_ex rfl ?_ (fun K hK=>?_)
      any_goals
       intro W hC;go_simp
       all_goals exact ⟨Below.refl _ _,rfl⟩
      any_goals
       revert hK
       intro hK;go_simp;refine hK _ ?_;clear hK K
     refine exV_ex rfl (fun W hC=>relAt_load_arr 55 (.tmp 18) rfl b1 (o1+k*11) rfl #[.string ⟨nm1.toArray⟩,.int .i64 fr1,.int .i64 tl1,.int .i64 mo1,.int .i64 d11,.int .i64 d21,.int .i64 d31,.int .i64 h11,.int .i64 h21,.int .i64 sv1,.string ⟨lt1.toArray⟩] _ hC.1 Tryz.underlying55 rfl hTi) (fun K hK=>?_)
     revert hK
     intro hK;go_simp;refine hK _ ?_;clear hK K
     iterate 3
      apply exV_ex rfl ?_ (fun K hK=>?_)
      any_goals
       intro W hC;go_simp
       all_goals exact ⟨Below.refl _ _,rfl⟩
      any_goals
       revert hK
       intro hK;go_simp;refine hK _ ?_;clear hK K
     refine exV_ex rfl (fun W hC=>relAt_load_arr 55 (.tmp 22) rfl b2 (o2+k*11) rfl #[.string ⟨nm2.toArray⟩,.int .i64 fr2,.int .i64 tl2,.int .i64 mo2,.int .i64 d12,.int .i64 d22,.int .i64 d32,.int .i64 h12,.int .i64 h22,.int .i64 sv2,.string ⟨lt2.toArray⟩] _ hC.2.1 Tryz.underlying55 rfl hTi) (fun K hK=>?_)
     revert hK
     intro hK;go_simp;refine hK _ ?_;clear hK K;refine exV_ex (v:=.bool true) rfl (fun W hC=>?_) (fun K hK=>?_)
     ·go_simp
      by_cases e_nm:nm1=nm2
      rotate_left
      ·rw [if_neg e_nm]
       first|exact ⟨Below.refl _ _,rfl⟩|exact Below.refl _ _
      rw [if_pos e_nm]
      by_cases e_fr:fr1=fr2
      rotate_left
      ·rw [if_neg e_fr]
       first|exact ⟨Below.refl _ _,rfl⟩|exact Below.refl _ _
      rw [if_pos e_fr]
      by_cases e_tl:tl1=tl2
      rotate_left
      ·rw [if_neg e_tl]
       first|exact ⟨Below.refl _ _,rfl⟩|exact Below.refl _ _
      rw [if_pos e_tl]
      by_cases e_mo:mo1=mo2
      rotate_left
      ·rw [if_neg e_mo]
       first|exact ⟨Below.refl _ _,rfl⟩|exact Below.refl _ _
      rw [if_pos e_mo]
      by_cases e_d1:d11=d12
      rotate_left
      ·rw [if_neg e_d1]
       first|exact ⟨Below.refl _ _,rfl⟩|exact Below.refl _ _
      rw [if_pos e_d1]
      by_cases e_d2:d21=d22
      rotate_left
      ·rw [if_neg e_d2]
       first|exact ⟨Below.refl _ _,rfl⟩|exact Below.refl _ _
      rw [if_pos e_d2]
      by_cases e_d3:d31=d32
      rotate_left
      ·rw [if_neg e_d3]
       first|exact ⟨Below.refl _ _,rfl⟩|exact Below.refl _ _
      rw [if_pos e_d3]
      by_cases e_h1:h11=h12
      rotate_left
      ·rw [if_neg e_h1]
       first|exact ⟨Below.refl _ _,rfl⟩|exact Below.refl _ _
      rw [if_pos e_h1]
      by_cases e_h2:h21=h22
      rotate_left
      ·rw [if_neg e_h2]
       first|exact ⟨Below.refl _ _,rfl⟩|exact Below.refl _ _
      rw [if_pos e_h2]
      by_cases e_sv:sv1=sv2
      rotate_left
      ·rw [if_neg e_sv]
       first|exact ⟨Below.refl _ _,rfl⟩|exact Below.refl _ _
      rw [if_pos e_sv]
      by_cases e_lt:lt1=lt2
      rotate_left
      ·rw [if_neg e_lt]
       first|exact ⟨Below.refl _ _,rfl⟩|exact Below.refl _ _
      rw [if_pos e_lt];exact absurd (by subst_vars;rfl) hxy
     revert hK
     intro hK;go_simp;refine hK _ ?_;clear hK K;refine exV_end fun W hC=>(wpList_nil ?_)
     go_wp2_with fail
     go_ret
     exact ⟨by rw [decide_eq_false HF.out];rfl,hC.2.2⟩
   ·obtain rfl:k=ys.length:=by omega
    have hd:decide ((ys.length:Int)<(ys.length:Int))=false:=by simp
    have HT:=hid (show xs=ys from by
     have h:=HA.out;rwa [List.take_length,List.take_of_length_le (by omega)] at h)
    clear HA HR1 HR2 hlt hk;go_wp2_with fail
    go_ret
    exact ⟨by rw [decide_eq_true HT.out];rfl,hB⟩
 ·have hnI:((xs.length:Int) != (ys.length:Int))=true:=by rw [bne_iff_ne];omega
  have HF:=hid (show xs≠ys from fun h=>hn (by rw [h]));clear r1 r2 hn
  go_enter Tryz.func48,Tryz.ntmps48;go_wp2_with fail
  go_ret
  exact ⟨by rw [decide_eq_false HF.out];rfl,Below.refl _ _⟩
theorem equalEra_any (xs ys:List EraP) (v u:Value) (w:World) (h1:RowsAt w w.heap.size 13 EraP.cells v xs) (h2:RowsAt w w.heap.size 13 EraP.cells u ys) (hl:xs.length≤1048576) (hl2:ys.length≤1048576) :
 Calls Tryz.prog 51 #[v,u] w fun e w'=>e=.returned (.bool (decide (xs=ys)))∧Below w.heap.size w w':=by
 obtain ⟨p1,c1,rfl,r1⟩:=h1;obtain ⟨p2,c2,rfl,r2⟩:=h2;have hTi:(Tryz.prog.info? 62).map (·.size)=some 13:=by kernel_rfl
 by_cases hn:xs.length=ys.length
 ·rw [hn] at hl ⊢
  have HR1:=hid r1;have HR2:=hid r2;clear r1 r2
  go_enter Tryz.func51,Tryz.ntmps51;go_wp2_with fail
  go_loopw [5,13] (fun _ i wr=>∃k:Nat,k≤ys.length∧i=.int .i64 (k:Int)∧Hid (xs.take k=ys.take k)∧Below w.heap.size w wr) (fun _ i _=>ys.length-(intOf i).toNat)
  case atStart=>exact ⟨0,Nat.zero_le _,rfl,hid rfl,Below.refl _ _⟩
  case round =>
   obtain ⟨k,hk,rfl,HA,hB⟩:=hrel
   by_cases hlt:k<ys.length
   ·obtain ⟨x,hx⟩:∃x,xs[k]? = some x:=⟨_,List.getElem?_eq_getElem (by omega)⟩
    obtain ⟨y,hy⟩:∃y,ys[k]? = some y:=⟨_,List.getElem?_eq_getElem hlt⟩;obtain ⟨b1,o1,rfl,hb1,ha1⟩:=HR1.out (by intro h;rw [h] at hn;simp at hn;omega);obtain ⟨b2,o2,rfl,hb2,ha2⟩:=HR2.out (by intro h;rw [h] at hlt;simp at hlt);have HC1:=hid (show wr.drew.rangeAt b1 (o1+k*13) (EraP.cells x).toList from fun j v hv=>(hB.cell (p:=⟨b1,o1+k*13+j,none⟩) hb1).trans (ha1 k x hx j v hv));have HC2:=hid (show wr.drew.rangeAt b2 (o2+k*13) (EraP.cells y).toList from fun j v hv=>(hB.cell (p:=⟨b2,o2+k*13+j,none⟩) hb2).trans (ha2 k y hy j v hv));have hd:decide ((k:Int)<(ys.length:Int))=true:=by simp;omega
    have k0:(0:Int)≤(k:Int):=by omega
    have kl:(k:Int)<(ys.length:Int):=by omega
    have HX:=hid hx;have HY:=hid hy;clear ha1 ha2 HR1 HR2 hx hy
    by_cases hxy:x=y
    ·subst hxy
     have HT:=hid (take_eq HA.out HX.out HY.out rfl);obtain ⟨of1,kd1,sv1,st1,fm1,⟨is1,y1,m1,⟨d11,d21,d31⟩,⟨h11,h21⟩⟩⟩:=x;simp only [EraP.cells] at HC1 HC2;clear HX HY HA;go_wp2_with fail
     refine wp_region_vals 9 (fun W=>W.rangeAt b1 (o1+k*13) [.int .i64 of1,.int .i64 kd1,.int .i64 sv1,.string ⟨st1.toArray⟩,.string ⟨fm1.toArray⟩,.bool is1,.int .i64 y1,.int .i64 m1,.int .i64 d11,.int .i64 d21,.int .i64 d31,.int .i64 h11,.int .i64 h21]∧W.rangeAt b2 (o2+k*13) [.int .i64 of1,.int .i64 kd1,.int .i64 sv1,.string ⟨st1.toArray⟩,.string ⟨fm1.toArray⟩,.bool is1,.int .i64 y1,.int .i64 m1,.int .i64 d11,.int .i64 d21,.int .i64 d31,.int .i64 h11,.int .i64 h21]∧Below w.heap.size w W) (by kernel_rfl) (by kernel_rfl) rfl ⟨HC1.out,HC2.out,hB.drew⟩
      (fun W W' h hb=>⟨fun j v hv=>(hb.cell (p:=⟨b1,o1+k*13+j,none⟩) (Nat.lt_of_lt_of_le hb1 h.2.2.size)).trans (h.1 j v hv),fun j v hv=>(hb.cell (p:=⟨b2,o2+k*13+j,none⟩) (Nat.lt_of_lt_of_le hb2 h.2.2.size)).trans (h.2.1 j v hv),h.2.2.trans (hb.mono h.2.2.size)⟩) ?_
     iterate 3
      apply exV_ex rfl ?_ (fun K hK=>?_)
      any_goals
       intro W hC;go_simp
       all_goals exact ⟨Below.refl _ _,rfl⟩
      any_goals
       revert hK
       intro hK;go_simp;refine hK _ ?_;clear hK K
     refine exV_ex rfl (fun W hC=>relAt_load_arr 62 (.tmp 18) rfl b1 (o1+k*13) rfl #[.int .i64 of1,.int .i64 kd1,.int .i64 sv1,.string ⟨st1.toArray⟩,.string ⟨fm1.toArray⟩,.bool is1,.int .i64 y1,.int .i64 m1,.int .i64 d11,.int .i64 d21,.int .i64 d31,.int .i64 h11,.int .i64 h21] _ hC.1 Tryz.underlying62 rfl hTi) (fun K hK=>?_)
     revert hK
     intro hK;go_simp;refine hK _ ?_;clear hK K
     iterate 3
      apply exV_ex rfl ?_ (fun K hK=>?_)
      any_goals
       intro W hC;go_simp
       all_goals exact ⟨Below.refl _ _,rfl⟩
      any_goals
       revert hK
       intro hK;go_simp;refine hK _ ?_;clear hK K
     refine exV_ex rfl (fun W hC=>relAt_load_arr 62 (.tmp 22) rfl b2 (o2+k*13) rfl #[.int .i64 of1,.int .i64 kd1,.int .i64 sv1,.string ⟨st1.toArray⟩,.string ⟨fm1.toArray⟩,.bool is1,.int .i64 y1,.int .i64 m1,.int .i64 d11,.int .i64 d21,.int .i64 d31,.int .i64 h11,.int .i64 h21] _ hC.2.1 Tryz.underlying62 rfl hTi) (fun K hK=>?_)
     revert hK
     intro hK;go_simp;refine hK _ ?_;clear hK K;refine exV_ex (v:=.bool false) rfl (fun W hC=>?_) (fun K hK=>?_)
     ·go_simp
      first|exact ⟨Below.refl _ _,rfl⟩|exact Below.refl _ _
     revert hK
     intro hK;go_simp;refine hK _ ?_;clear hK K;refine exV_end fun W hC=>(wpList_nil ?_)
     go_wp2_with fail
     go_roundw
     case rel=>exact ⟨k+1,by omega,by go_num,HT,hC.2.2⟩
     case measure=>simp [intOf];omega
    ·have HF:=hid (take_ne HX.out HY.out hxy)
     obtain ⟨of1,kd1,sv1,st1,fm1,⟨is1,y1,m1,⟨d11,d21,d31⟩,⟨h11,h21⟩⟩⟩:=x;obtain ⟨of2,kd2,sv2,st2,fm2,⟨is2,y2,m2,⟨d12,d22,d32⟩,⟨h12,h22⟩⟩⟩:=y;simp only [EraP.cells] at HC1 HC2;clear HX HY HA;go_wp2_with fail
     refine wp_region_vals 9 (fun W=>W.rangeAt b1 (o1+k*13) [.int .i64 of1,.int .i64 kd1,.int .i64 sv1,.string ⟨st1.toArray⟩,.string ⟨fm1.toArray⟩,.bool is1,.int .i64 y1,.int .i64 m1,.int .i64 d11,.int .i64 d21,.int .i64 d31,.int .i64 h11,.int .i64 h21]∧W.rangeAt b2 (o2+k*13) [.int .i64 of2,.int .i64 kd2,.int .i64 sv2,.string ⟨st2.toArray⟩,.string ⟨fm2.toArray⟩,.bool is2,.int .i64 y2,.int .i64 m2,.int .i64 d12,.int .i64 d22,.int .i64 d32,.int .i64 h12,.int .i64 h22]∧Below w.heap.size w W) (by kernel_rfl) (by kernel_rfl) rfl ⟨HC1.out,HC2.out,hB.drew⟩
      (fun W W' h hb=>⟨fun j v hv=>(hb.cell (p:=⟨b1,o1+k*13+j,none⟩) (Nat.lt_of_lt_of_le hb1 h.2.2.size)).trans (h.1 j v hv),fun j v hv=>(hb.cell (p:=⟨b2,o2+k*13+j,none⟩) (Nat.lt_of_lt_of_le hb2 h.2.2.size)).trans (h.2.1 j v hv),h.2.2.trans (hb.mono h.2.2.size)⟩) ?_
     iterate 3
      apply exV_ex rfl ?_ (fun K hK=>?_)
      any_goals
       intro W hC;go_simp
       all_goals exact ⟨Below.refl _ _,rfl⟩
      any_goals
       revert hK
       intro hK;go_simp;refine hK _ ?_;clear hK K
     refine exV_ex rfl (fun W hC=>relAt_load_arr 62 (.tmp 18) rfl b1 (o1+k*13) rfl #[.int .i64 of1,.int .i64 kd1,.int .i64 sv1,.string ⟨st1.toArray⟩,.string ⟨fm1.toArray⟩,.bool is1,.int .i64 y1,.int .i64 m1,.int .i64 d11,.int .i64 d21,.int .i64 d31,.int .i64 h11,.int .i64 h21] _ hC.1 Tryz.underlying62 rfl hTi) (fun K hK=>?_)
     revert hK
     intro hK;go_simp;refine hK _ ?_;clear hK K
     iterate 3
      apply exV_ex rfl ?_ (fun K hK=>?_)
      any_goals
       intro W hC;go_simp
       all_goals exact ⟨Below.refl _ _,rfl⟩
      any_goals
       revert hK
       intro hK;go_simp;refine hK _ ?_;clear hK K
     refine exV_ex rfl (fun W hC=>relAt_load_arr 62 (.tmp 22) rfl b2 (o2+k*13) rfl #[.int .i64 of2,.int .i64 kd2,.int .i64 sv2,.string ⟨st2.toArray⟩,.string ⟨fm2.toArray⟩,.bool is2,.int .i64 y2,.int .i64 m2,.int .i64 d12,.int .i64 d22,.int .i64 d32,.int .i64 h12,.int .i64 h22] _ hC.2.1 Tryz.underlying62 rfl hTi) (fun K hK=>?_)
     revert hK
     intro hK;go_simp;refine hK _ ?_;clear hK K;refine exV_ex (v:=.bool true) rfl (fun W hC=>?_) (fun K hK=>?_)
     ·go_simp
      by_cases e_of:of1=of2
      rotate_left
      ·rw [if_neg e_of]
       first|exact ⟨Below.refl _ _,rfl⟩|exact Below.refl _ _
      rw [if_pos e_of]
      by_cases e_kd:kd1=kd2
      rotate_left
      ·rw [if_neg e_kd]
       first|exact ⟨Below.refl _ _,rfl⟩|exact Below.refl _ _
      rw [if_pos e_kd]
      by_cases e_sv:sv1=sv2
      rotate_left
      ·rw [if_neg e_sv]
       first|exact ⟨Below.refl _ _,rfl⟩|exact Below.refl _ _
      rw [if_pos e_sv]
      by_cases e_st:st1=st2
      rotate_left
      ·rw [if_neg e_st]
       first|exact ⟨Below.refl _ _,rfl⟩|exact Below.refl _ _
      rw [if_pos e_st]
      by_cases e_fm:fm1=fm2
      rotate_left
      ·rw [if_neg e_fm]
       first|exact ⟨Below.refl _ _,rfl⟩|exact Below.refl _ _
      rw [if_pos e_fm]
      by_cases e_is:is1=is2
      rotate_left
      ·rw [if_neg e_is]
       first|exact ⟨Below.refl _ _,rfl⟩|exact Below.refl _ _
      rw [if_pos e_is]
      by_cases e_y:y1=y2
      rotate_left
      ·rw [if_neg e_y]
       first|exact ⟨Below.refl _ _,rfl⟩|exact Below.refl _ _
      rw [if_pos e_y]
      by_cases e_m:m1=m2
      rotate_left
      ·rw [if_neg e_m]
       first|exact ⟨Below.refl _ _,rfl⟩|exact Below.refl _ _
      rw [if_pos e_m]
      by_cases e_d1:d11=d12
      rotate_left
      ·rw [if_neg e_d1]
       first|exact ⟨Below.refl _ _,rfl⟩|exact Below.refl _ _
      rw [if_pos e_d1]
      by_cases e_d2:d21=d22
      rotate_left
      ·rw [if_neg e_d2]
       first|exact ⟨Below.refl _ _,rfl⟩|exact Below.refl _ _
      rw [if_pos e_d2]
      by_cases e_d3:d31=d32
      rotate_left
      ·rw [if_neg e_d3]
       first|exact ⟨Below.refl _ _,rfl⟩|exact Below.refl _ _
      rw [if_pos e_d3]
      by_cases e_h1:h11=h12
      rotate_left
      ·rw [if_neg e_h1]
       first|exact ⟨Below.refl _ _,rfl⟩|exact Below.refl _ _
      rw [if_pos e_h1]
      by_cases e_h2:h21=h22
      rotate_left
      ·rw [if_neg e_h2]
       first|exact ⟨Below.refl _ _,rfl⟩|exact Below.refl _ _
      rw [if_pos e_h2];exact absurd (by subst_vars;rfl) hxy
     revert hK
     intro hK;go_simp;refine hK _ ?_;clear hK K;refine exV_end fun W hC=>(wpList_nil ?_)
     go_wp2_with fail
     go_ret
     exact ⟨by rw [decide_eq_false HF.out];rfl,hC.2.2⟩
   ·obtain rfl:k=ys.length:=by omega
    have hd:decide ((ys.length:Int)<(ys.length:Int))=false:=by simp
    have HT:=hid (show xs=ys from by
     have h:=HA.out;rwa [List.take_length,List.take_of_length_le (by omega)] at h)
    clear HA HR1 HR2 hlt hk;go_wp2_with fail
    go_ret
    exact ⟨by rw [decide_eq_true HT.out];rfl,hB⟩
 ·have hnI:((xs.length:Int) != (ys.length:Int))=true:=by rw [bne_iff_ne];omega
  have HF:=hid (show xs≠ys from fun h=>hn (by rw [h]));clear r1 r2 hn
  go_enter Tryz.func51,Tryz.ntmps51;go_wp2_with fail
  go_ret
  exact ⟨by rw [decide_eq_false HF.out];rfl,Below.refl _ _⟩
theorem equalLink_any (xs ys:List LinkP) (v u:Value) (w:World) (h1:RowsAt w w.heap.size 2 LinkP.cells v xs) (h2:RowsAt w w.heap.size 2 LinkP.cells u ys) (hl:xs.length≤1048576) (hl2:ys.length≤1048576) :
 Calls Tryz.prog 52 #[v,u] w fun e w'=>e=.returned (.bool (decide (xs=ys)))∧Below w.heap.size w w':=by
 obtain ⟨p1,c1,rfl,r1⟩:=h1;obtain ⟨p2,c2,rfl,r2⟩:=h2;have hTi:(Tryz.prog.info? 64).map (·.size)=some 2:=by kernel_rfl
 by_cases hn:xs.length=ys.length
 ·rw [hn] at hl ⊢
  have HR1:=hid r1;have HR2:=hid r2;clear r1 r2
  go_enter Tryz.func52,Tryz.ntmps52;go_wp2_with fail
  go_loopw [5,13] (fun _ i wr=>∃k:Nat,k≤ys.length∧i=.int .i64 (k:Int)∧Hid (xs.take k=ys.take k)∧Below w.heap.size w wr) (fun _ i _=>ys.length-(intOf i).toNat)
  case atStart=>exact ⟨0,Nat.zero_le _,rfl,hid rfl,Below.refl _ _⟩
  case round =>
   obtain ⟨k,hk,rfl,HA,hB⟩:=hrel
   by_cases hlt:k<ys.length
   ·obtain ⟨x,hx⟩:∃x,xs[k]? = some x:=⟨_,List.getElem?_eq_getElem (by omega)⟩
    obtain ⟨y,hy⟩:∃y,ys[k]? = some y:=⟨_,List.getElem?_eq_getElem hlt⟩;obtain ⟨b1,o1,rfl,hb1,ha1⟩:=HR1.out (by intro h;rw [h] at hn;simp at hn;omega);obtain ⟨b2,o2,rfl,hb2,ha2⟩:=HR2.out (by intro h;rw [h] at hlt;simp at hlt);have HC1:=hid (show wr.drew.rangeAt b1 (o1+k*2) (LinkP.cells x).toList from fun j v hv=>(hB.cell (p:=⟨b1,o1+k*2+j,none⟩) hb1).trans (ha1 k x hx j v hv));have HC2:=hid (show wr.drew.rangeAt b2 (o2+k*2) (LinkP.cells y).toList from fun j v hv=>(hB.cell (p:=⟨b2,o2+k*2+j,none⟩) hb2).trans (ha2 k y hy j v hv));have hd:decide ((k:Int)<(ys.length:Int))=true:=by simp;omega
    have k0:(0:Int)≤(k:Int):=by omega
    have kl:(k:Int)<(ys.length:Int):=by omega
    have HX:=hid hx;have HY:=hid hy;clear ha1 ha2 HR1 HR2 hx hy
    by_cases hxy:x=y
    ·subst hxy
     have HT:=hid (take_eq HA.out HX.out HY.out rfl);obtain ⟨tg1,nm1⟩:=x;simp only [LinkP.cells] at HC1 HC2;clear HX HY HA;go_wp2_with fail
     refine wp_region_vals 9 (fun W=>W.rangeAt b1 (o1+k*2) [.string ⟨tg1.toArray⟩,.string ⟨nm1.toArray⟩]∧W.rangeAt b2 (o2+k*2) [.string ⟨tg1.toArray⟩,.string ⟨nm1.toArray⟩]∧Below w.heap.size w W) (by kernel_rfl) (by kernel_rfl) rfl ⟨HC1.out,HC2.out,hB.drew⟩
      (fun W W' h hb=>⟨fun j v hv=>(hb.cell (p:=⟨b1,o1+k*2+j,none⟩) (Nat.lt_of_lt_of_le hb1 h.2.2.size)).trans (h.1 j v hv),fun j v hv=>(hb.cell (p:=⟨b2,o2+k*2+j,none⟩) (Nat.lt_of_lt_of_le hb2 h.2.2.size)).trans (h.2.1 j v hv),h.2.2.trans (hb.mono h.2.2.size)⟩) ?_
     iterate 3
      apply exV_ex rfl ?_ (fun K hK=>?_)
      any_goals
       intro W hC;go_simp
       all_goals exact ⟨Below.refl _ _,rfl⟩
      any_goals
       revert hK
       intro hK;go_simp;refine hK _ ?_;clear hK K
     refine exV_ex rfl (fun W hC=>relAt_load_arr 64 (.tmp 18) rfl b1 (o1+k*2) rfl #[.string ⟨tg1.toArray⟩,.string ⟨nm1.toArray⟩] _ hC.1 Tryz.underlying64 rfl hTi) (fun K hK=>?_)
     revert hK
     intro hK;go_simp;refine hK _ ?_;clear hK K
     iterate 3
      apply exV_ex rfl ?_ (fun K hK=>?_)
      any_goals
       intro W hC;go_simp
       all_goals exact ⟨Below.refl _ _,rfl⟩
      any_goals
       revert hK
       intro hK;go_simp;refine hK _ ?_;clear hK K
     refine exV_ex rfl (fun W hC=>relAt_load_arr 64 (.tmp 22) rfl b2 (o2+k*2) rfl #[.string ⟨tg1.toArray⟩,.string ⟨nm1.toArray⟩] _ hC.2.1 Tryz.underlying64 rfl hTi) (fun K hK=>?_)
     revert hK
     intro hK;go_simp;refine hK _ ?_;clear hK K;refine exV_ex (v:=.bool false) rfl (fun W hC=>?_) (fun K hK=>?_)
     ·go_simp
      first|exact ⟨Below.refl _ _,rfl⟩|exact Below.refl _ _
     revert hK
     intro hK;go_simp;refine hK _ ?_;clear hK K;refine exV_end fun W hC=>(wpList_nil ?_)
     go_wp2_with fail
     go_roundw
     case rel=>exact ⟨k+1,by omega,by go_num,HT,hC.2.2⟩
     case measure=>simp [intOf];omega
    ·have HF:=hid (take_ne HX.out HY.out hxy)
     obtain ⟨tg1,nm1⟩:=x;obtain ⟨tg2,nm2⟩:=y;simp only [LinkP.cells] at HC1 HC2;clear HX HY HA;go_wp2_with fail
     refine wp_region_vals 9 (fun W=>W.rangeAt b1 (o1+k*2) [.string ⟨tg1.toArray⟩,.string ⟨nm1.toArray⟩]∧W.rangeAt b2 (o2+k*2) [.string ⟨tg2.toArray⟩,.string ⟨nm2.toArray⟩]∧Below w.heap.size w W) (by kernel_rfl) (by kernel_rfl) rfl ⟨HC1.out,HC2.out,hB.drew⟩
      (fun W W' h hb=>⟨fun j v hv=>(hb.cell (p:=⟨b1,o1+k*2+j,none⟩) (Nat.lt_of_lt_of_le hb1 h.2.2.size)).trans (h.1 j v hv),fun j v hv=>(hb.cell (p:=⟨b2,o2+k*2+j,none⟩) (Nat.lt_of_lt_of_le hb2 h.2.2.size)).trans (h.2.1 j v hv),h.2.2.trans (hb.mono h.2.2.size)⟩) ?_
     iterate 3
      apply exV_ex rfl ?_ (fun K hK=>?_)
      any_goals
       intro W hC;go_simp
       all_goals exact ⟨Below.refl _ _,rfl⟩
      any_goals
       revert hK
       intro hK;go_simp;refine hK _ ?_;clear hK K
     refine exV_ex rfl (fun W hC=>relAt_load_arr 64 (.tmp 18) rfl b1 (o1+k*2) rfl #[.string ⟨tg1.toArray⟩,.string ⟨nm1.toArray⟩] _ hC.1 Tryz.underlying64 rfl hTi) (fun K hK=>?_)
     revert hK
     intro hK;go_simp;refine hK _ ?_;clear hK K
     iterate 3
      apply exV_ex rfl ?_ (fun K hK=>?_)
      any_goals
       intro W hC;go_simp
       all_goals exact ⟨Below.refl _ _,rfl⟩
      any_goals
       revert hK
       intro hK;go_simp;refine hK _ ?_;clear hK K
     refine exV_ex rfl (fun W hC=>relAt_load_arr 64 (.tmp 22) rfl b2 (o2+k*2) rfl #[.string ⟨tg2.toArray⟩,.string ⟨nm2.toArray⟩] _ hC.2.1 Tryz.underlying64 rfl hTi) (fun K hK=>?_)
     revert hK
     intro hK;go_simp;refine hK _ ?_;clear hK K;refine exV_ex (v:=.bool true) rfl (fun W hC=>?_) (fun K hK=>?_)
     ·go_simp
      by_cases e_tg:tg1=tg2
      rotate_left
      ·rw [if_neg e_tg]
       first|exact ⟨Below.refl _ _,rfl⟩|exact Below.refl _ _
      rw [if_pos e_tg]
      by_cases e_nm:nm1=nm2
      rotate_left
      ·rw [if_neg e_nm]
       first|exact ⟨Below.refl _ _,rfl⟩|exact Below.refl _ _
      rw [if_pos e_nm];exact absurd (by subst_vars;rfl) hxy
     revert hK
     intro hK;go_simp;refine hK _ ?_;clear hK K;refine exV_end fun W hC=>(wpList_nil ?_)
     go_wp2_with fail
     go_ret
     exact ⟨by rw [decide_eq_false HF.out];rfl,hC.2.2⟩
   ·obtain rfl:k=ys.length:=by omega
    have hd:decide ((ys.length:Int)<(ys.length:Int))=false:=by simp
    have HT:=hid (show xs=ys from by
     have h:=HA.out;rwa [List.take_length,List.take_of_length_le (by omega)] at h)
    clear HA HR1 HR2 hlt hk;go_wp2_with fail
    go_ret
    exact ⟨by rw [decide_eq_true HT.out];rfl,hB⟩
 ·have hnI:((xs.length:Int) != (ys.length:Int))=true:=by rw [bne_iff_ne];omega
  have HF:=hid (show xs≠ys from fun h=>hn (by rw [h]));clear r1 r2 hn
  go_enter Tryz.func52,Tryz.ntmps52;go_wp2_with fail
  go_ret
  exact ⟨by rw [decide_eq_false HF.out];rfl,Below.refl _ _⟩
theorem equalStr_any (xs ys:List (List UInt8)) (v u:Value) (w:World) (h1:RowsAt w w.heap.size 1 encS v xs) (h2:RowsAt w w.heap.size 1 encS u ys) (hl:xs.length≤1048576) (hl2:ys.length≤1048576) :
 Calls Tryz.prog 28 #[v,u] w fun e w'=>e=.returned (.bool (decide (xs=ys)))∧Below w.heap.size w w':=by
 obtain ⟨p1,c1,rfl,r1⟩:=h1;obtain ⟨p2,c2,rfl,r2⟩:=h2
 by_cases hn:xs.length=ys.length
 ·rw [hn] at hl ⊢
  have HR1:=hid r1;have HR2:=hid r2;clear r1 r2
  go_enter Tryz.func28,Tryz.ntmps28;go_wp2_with fail
  go_loopw [5,13] (fun _ i wr=>∃k:Nat,k≤ys.length∧i=.int .i64 (k:Int)∧Hid (xs.take k=ys.take k)∧Below w.heap.size w wr) (fun _ i _=>ys.length-(intOf i).toNat)
  case atStart=>exact ⟨0,Nat.zero_le _,rfl,hid rfl,Below.refl _ _⟩
  case round =>
   obtain ⟨k,hk,rfl,HA,hB⟩:=hrel
   by_cases hlt:k<ys.length
   ·obtain ⟨x,hx⟩:∃x,xs[k]? = some x:=⟨_,List.getElem?_eq_getElem (by omega)⟩
    obtain ⟨y,hy⟩:∃y,ys[k]? = some y:=⟨_,List.getElem?_eq_getElem hlt⟩;obtain ⟨b1,o1,rfl,hb1,ha1⟩:=HR1.out (by intro h;rw [h] at hn;simp at hn;omega);obtain ⟨b2,o2,rfl,hb2,ha2⟩:=HR2.out (by intro h;rw [h] at hlt;simp at hlt);have HC1:=hid (show wr.drew.rangeAt b1 (o1+k*1) (encS x).toList from fun j v hv=>(hB.cell (p:=⟨b1,o1+k*1+j,none⟩) hb1).trans (ha1 k x hx j v hv));have HC2:=hid (show wr.drew.rangeAt b2 (o2+k*1) (encS y).toList from fun j v hv=>(hB.cell (p:=⟨b2,o2+k*1+j,none⟩) hb2).trans (ha2 k y hy j v hv));have hd:decide ((k:Int)<(ys.length:Int))=true:=by simp;omega
    have k0:(0:Int)≤(k:Int):=by omega
    have kl:(k:Int)<(ys.length:Int):=by omega
    have HX:=hid hx;have HY:=hid hy;clear ha1 ha2 HR1 HR2 hx hy
    by_cases hxy:x=y
    ·subst hxy
     have HT:=hid (take_eq HA.out HX.out HY.out rfl);simp only [encS] at HC1 HC2;clear HX HY HA;go_wp2_with fail
     refine wp_region_vals 9 (fun W=>W.rangeAt b1 (o1+k*1) [.string ⟨x.toArray⟩]∧W.rangeAt b2 (o2+k*1) [.string ⟨x.toArray⟩]∧Below w.heap.size w W) (by kernel_rfl) (by kernel_rfl) rfl ⟨HC1.out,HC2.out,hB.drew⟩
      (fun W W' h hb=>⟨fun j v hv=>(hb.cell (p:=⟨b1,o1+k*1+j,none⟩) (Nat.lt_of_lt_of_le hb1 h.2.2.size)).trans (h.1 j v hv),fun j v hv=>(hb.cell (p:=⟨b2,o2+k*1+j,none⟩) (Nat.lt_of_lt_of_le hb2 h.2.2.size)).trans (h.2.1 j v hv),h.2.2.trans (hb.mono h.2.2.size)⟩) ?_
     iterate 3
      apply exV_ex rfl ?_ (fun K hK=>?_)
      any_goals
       intro W hC;go_simp
       all_goals exact ⟨Below.refl _ _,rfl⟩
      any_goals
       revert hK
       intro hK;go_simp;refine hK _ ?_;clear hK K
     refine exV_ex (v:=.string ⟨x.toArray⟩) rfl (fun W hC=>?_) (fun K hK=>?_)
     ·have c:=hC.1 0 _ rfl
      simp only [Nat.mul_one,Nat.add_zero] at c;go_simp
      first|exact ⟨Below.refl _ _,rfl⟩|exact Below.refl _ _
     revert hK
     intro hK;go_simp;refine hK _ ?_;clear hK K
     iterate 3
      apply exV_ex rfl ?_ (fun K hK=>?_)
      any_goals
       intro W hC;go_simp
       all_goals exact ⟨Below.refl _ _,rfl⟩
      any_goals
       revert hK
       intro hK;go_simp;refine hK _ ?_;clear hK K
     refine exV_ex (v:=.string ⟨x.toArray⟩) rfl (fun W hC=>?_) (fun K hK=>?_)
     ·have c:=hC.2.1 0 _ rfl
      simp only [Nat.mul_one,Nat.add_zero] at c;go_simp
      first|exact ⟨Below.refl _ _,rfl⟩|exact Below.refl _ _
     revert hK
     intro hK;go_simp;refine hK _ ?_;clear hK K;refine exV_ex (v:=.bool false) rfl (fun W hC=>?_) (fun K hK=>?_)
     ·go_simp
      first|exact ⟨Below.refl _ _,rfl⟩|exact Below.refl _ _
     revert hK
     intro hK;go_simp;refine hK _ ?_;clear hK K;refine exV_end fun W hC=>(wpList_nil ?_)
     go_wp2_with fail
     go_roundw
     case rel=>exact ⟨k+1,by omega,by go_num,HT,hC.2.2⟩
     case measure=>simp [intOf];omega
    ·have HF:=hid (take_ne HX.out HY.out hxy)
     simp only [encS] at HC1 HC2;clear HX HY HA;go_wp2_with fail
     refine wp_region_vals 9 (fun W=>W.rangeAt b1 (o1+k*1) [.string ⟨x.toArray⟩]∧W.rangeAt b2 (o2+k*1) [.string ⟨y.toArray⟩]∧Below w.heap.size w W) (by kernel_rfl) (by kernel_rfl) rfl ⟨HC1.out,HC2.out,hB.drew⟩
      (fun W W' h hb=>⟨fun j v hv=>(hb.cell (p:=⟨b1,o1+k*1+j,none⟩) (Nat.lt_of_lt_of_le hb1 h.2.2.size)).trans (h.1 j v hv),fun j v hv=>(hb.cell (p:=⟨b2,o2+k*1+j,none⟩) (Nat.lt_of_lt_of_le hb2 h.2.2.size)).trans (h.2.1 j v hv),h.2.2.trans (hb.mono h.2.2.size)⟩) ?_
     iterate 3
      apply exV_ex rfl ?_ (fun K hK=>?_)
      any_goals
       intro W hC;go_simp
       all_goals exact ⟨Below.refl _ _,rfl⟩
      any_goals
       revert hK
       intro hK;go_simp;refine hK _ ?_;clear hK K
     refine exV_ex (v:=.string ⟨x.toArray⟩) rfl (fun W hC=>?_) (fun K hK=>?_)
     ·have c:=hC.1 0 _ rfl
      simp only [Nat.mul_one,Nat.add_zero] at c;go_simp
      first|exact ⟨Below.refl _ _,rfl⟩|exact Below.refl _ _
     revert hK
     intro hK;go_simp;refine hK _ ?_;clear hK K
     iterate 3
      apply exV_ex rfl ?_ (fun K hK=>?_)
      any_goals
       intro W hC;go_simp
       all_goals exact ⟨Below.refl _ _,rfl⟩
      any_goals
       revert hK
       intro hK;go_simp;refine hK _ ?_;clear hK K
     refine exV_ex (v:=.string ⟨y.toArray⟩) rfl (fun W hC=>?_) (fun K hK=>?_)
     ·have c:=hC.2.1 0 _ rfl
      simp only [Nat.mul_one,Nat.add_zero] at c;go_simp
      first|exact ⟨Below.refl _ _,rfl⟩|exact Below.refl _ _
     revert hK
     intro hK;go_simp;refine hK _ ?_;clear hK K;refine exV_ex (v:=.bool true) rfl (fun W hC=>?_) (fun K hK=>?_)
     ·go_simp
      first|exact ⟨Below.refl _ _,rfl⟩|exact Below.refl _ _
     revert hK
     intro hK;go_simp;refine hK _ ?_;clear hK K;refine exV_end fun W hC=>(wpList_nil ?_)
     go_wp2_with fail
     go_ret
     exact ⟨by rw [decide_eq_false HF.out];rfl,hC.2.2⟩
   ·obtain rfl:k=ys.length:=by omega
    have hd:decide ((ys.length:Int)<(ys.length:Int))=false:=by simp
    have HT:=hid (show xs=ys from by
     have h:=HA.out;rwa [List.take_length,List.take_of_length_le (by omega)] at h)
    clear HA HR1 HR2 hlt hk;go_wp2_with fail
    go_ret
    exact ⟨by rw [decide_eq_true HT.out];rfl,hB⟩
 ·have hnI:((xs.length:Int) != (ys.length:Int))=true:=by rw [bne_iff_ne];omega
  have HF:=hid (show xs≠ys from fun h=>hn (by rw [h]));clear r1 r2 hn
  go_enter Tryz.func28,Tryz.ntmps28;go_wp2_with fail
  go_ret
  exact ⟨by rw [decide_eq_false HF.out];rfl,Below.refl _ _⟩
structure SrcLn (s:SourceP):Prop where
 rules:s.rules.length≤1048576
 zones:s.zones.length≤1048576
 links:s.links.length≤1048576
 shifts:s.shifts.length≤1048576
 eras:∀z ∈ s.zones,z.eras.length≤1048576
theorem zv_of {w:World} {n:Nat} {zs:List (ZoneP × Value)} (hv:∀q ∈ zs,RowsAt w n 13 EraP.cells q.2 q.1.eras):∃ys:List ZV,ys.map (·.1)=zs :=
 ⟨zs.attach.map fun q=>⟨q.1,(hv q.1 q.2).slice⟩,by rw [List.map_map];exact List.attach_map_subtype_val zs⟩
theorem SrcIs.mono {w:World} {n₀ n₁:Nat} {r z l h:Value} {zs:List (ZoneP × Value)} {s:SourceP} (k:SrcIs w n₀ r z l h zs s) (hn:n₀≤n₁):SrcIs w n₁ r z l h zs s :=
 ⟨k.1.mono hn,k.2.1.mono hn,k.2.2.1,fun q hq=>(k.2.2.2.1 q hq).mono hn,k.2.2.2.2.1.mono hn,k.2.2.2.2.2.mono hn⟩
theorem SrcIs.now {w W:World} {r z l h:Value} {zs:List (ZoneP × Value)} {s:SourceP} (k:SrcIs w w.heap.size r z l h zs s) (hb:Below w.heap.size w W):SrcIs W W.heap.size r z l h zs s:=(k.below hb).mono hb.size
def flatC {α:Type} (enc:α→Array Value) (l:List α):List Value:=l.flatMap fun x=>(enc x).toList
theorem flatC_len {α:Type} {enc:α→Array Value} {k:Nat} (h:∀x,(enc x).size=k) (l:List α):(flatC enc l).length=l.length*k:=by
 induction l with
 | nil=>simp [flatC]
 | cons a l ih =>
  have e:flatC enc (a::l)=(enc a).toList++flatC enc l:=by simp [flatC]
  rw [e,List.length_append,ih,Array.length_toList,h,List.length_cons,Nat.succ_mul]
  omega
theorem flatC_at {α:Type} {enc:α→Array Value} {k:Nat} (h:∀x,(enc x).size=k):∀(l:List α) (i j:Nat) (x:α),l[i]? = some x→j<k→(flatC enc l)[i*k+j]? = (enc x).toList[j]?
 | [],i,j,x,hx,_=>by simp at hx
 | a::l,0,j,x,hx,hj=>by
  have e:flatC enc (a::l)=(enc a).toList++flatC enc l:=by simp [flatC]
  simp only [List.getElem?_cons_zero,Option.some.injEq] at hx;subst hx;rw [e,Nat.zero_mul,Nat.zero_add,List.getElem?_append_left (by simp [h];exact hj)]
 | a::l,i+1,j,x,hx,hj=>by
  have e:flatC enc (a::l)=(enc a).toList++flatC enc l:=by simp [flatC]
  have ih:=flatC_at h l i j x (by simpa using hx) hj;rw [e,List.getElem?_append_right (by simp [h];rw [Nat.succ_mul];omega),Array.length_toList,h,Nat.succ_mul,show i*k+k+j-k=i*k+j by omega];exact ih
theorem flatC_of {α:Type} {enc:α→Array Value} {k:Nat} (hk:0<k) (h:∀x,(enc x).size=k) (l:List α) (q:Nat) (u:Value) (hu:(flatC enc l)[q]? = some u):∃x,l[q / k]? = some x∧(enc x).toList[q % k]? = some u:=by
 have hq:q<l.length*k:=by
  rcases Nat.lt_or_ge q (flatC enc l).length with hlt|hge
  ·rwa [flatC_len h] at hlt
  ·rw [List.getElem?_eq_none hge] at hu;cases hu
 have h1:q / k<l.length:=(Nat.div_lt_iff_lt_mul hk).2 hq;refine ⟨l[q / k],List.getElem?_eq_getElem h1,?_⟩;rw [←flatC_at h l (q / k) (q % k) _ (List.getElem?_eq_getElem h1) (Nat.mod_lt _ hk),Nat.mul_comm,Nat.div_add_mod];exact hu
theorem RowsAt.reads {α:Type} {w:World} {n₀ k:Nat} {enc:α→Array Value} {p:Option Addr} {c:Nat} {l:List α} (hk:0<k) (hs:∀x,(enc x).size=k) (h:RowsAt w n₀ k enc (.slice p l.length c) l):Reads w n₀ k p l.length (flatC enc l):=by
 obtain ⟨p',c',e,h2⟩:=h
 injection e with e1 e2 e3
 subst e1;refine ⟨flatC_len hs l,fun hn=>?_⟩;obtain ⟨b,o,rfl,hb,h3⟩:=h2 (fun h0=>by rw [h0] at hn;simp at hn);refine ⟨_,rfl,hb,fun j u hu=>?_⟩;obtain ⟨x,hx,hxu⟩:=flatC_of hk hs l j u hu;have:=h3 _ x hx _ u hxu;rw [Addr.add_mid];rwa [show o+j / k*k+j % k=o+j by rw [Nat.add_assoc,Nat.mul_comm,Nat.div_add_mod]] at this
theorem flatC_one {α:Type} {enc:α→Array Value} (h1:∀x,(enc x).all (·.oneCell')=true) (l:List α):∀u ∈ flatC enc l,u.oneCell'=true:=fun u hu=>by
 obtain ⟨x,_,hx⟩:=List.mem_flatMap.1 hu;have:=Array.all_eq_true.1 (h1 x);obtain ⟨i,hi,e⟩:=List.mem_iff_getElem.1 hx;rw [←e];have h:=this i (by simpa using hi)
 simpa using h
theorem rows_of_own {α:Type} {w:World} {B k:Nat} {T:TypeId} {enc:α→Array Value} {v:Value} {l:List α} (hk:0<k) (hs:∀x,(enc x).size=k) (h:w.ownsRow B T k v l.length (flatC enc l)):RowsAt w w.heap.size k enc v l:=by
 rcases h.2 with ⟨rfl,h0⟩|⟨g,cap,cur,rfl,_,hh,_⟩
 ·exact ⟨none,0,by rw [h0],fun hne=>absurd (List.length_eq_zero_iff.1 h0) hne⟩
 ·refine ⟨_,cap,rfl,fun _=>⟨g,0,rfl,(Array.getElem?_eq_some_iff.1 hh).1,fun i x hx j u hu=>?_⟩⟩
  have hi:i<l.length:=by
   rcases Nat.lt_or_ge i l.length with h|h
   ·exact h
   ·rw [List.getElem?_eq_none h] at hx;cases hx
  have hj:j<k:=by
   rcases Nat.lt_or_ge j k with h|h
   ·exact h
   ·rw [List.getElem?_eq_none (by simp [hs];exact h)] at hu;cases hu
  rw [Nat.zero_add,h.cellAt (i*k+j) (by
   have:=Nat.mul_le_mul_right k (show i+1≤l.length by omega);rw [Nat.succ_mul] at this
   omega),flatC_at hs l i j x hx hj]
  exact hu
theorem info_st {P:Program} {e:TypeId} {k:Nat} (h:(P.info? e).map (fun i=>(i.size,decide (i.bytes≤1000),i.zero.map (·.cells.size)))=some (k,true,some k)):∃i z,P.info? e=some i∧i.zero=some z∧i.size=k∧i.bytes≤1000∧z.cells.size=k:=by
 cases hi:P.info? e with
 | none=>rw [hi] at h;cases h
 | some i =>
  rw [hi] at h;simp only [Option.map_some,Option.some.injEq,Prod.mk.injEq,decide_eq_true_eq] at h
  cases hz:i.zero with
  | none=>rw [hz] at h;simp at h
  | some z=>rw [hz] at h;simp only [Option.map_some,Option.some.injEq] at h;exact ⟨i,z,rfl,hz,h.1,h.2.1,h.2.2⟩
def RowsN (W:World) (g q:Nat) (v:Value) (l:List EraP):Prop :=
 ∃p c,v=.slice p l.length c∧(l≠[]→∃b o,p=some ⟨b,o,none⟩∧b<W.heap.size∧b≠g∧b≠q∧∀i x,l[i]? = some x→W.rangeAt b (o+i*13) x.cells.toList)
theorem RowsN.of_own {W:World} {g q B:Nat} {v:Value} {l:List EraP} (h:W.ownsRow B 62 13 v l.length (flatC EraP.cells l)) (hg:g<B) (hq:q<B):RowsN W g q v l:=by
 have hr:=rows_of_own (by decide) (fun x=>(eraOk_cells x).1) h;obtain ⟨p,c,e,h2⟩:=hr;refine ⟨p,c,e,fun h0=>?_⟩;obtain ⟨b,o,e2,hb,h3⟩:=h2 h0
 have hB:B≤b:=by
  rcases h.2 with ⟨hv,_⟩|⟨g',cap,cur,hv,hB,_⟩
  ·rw [hv] at e;injection e with e1 _ _;rw [e2] at e1;cases e1
  ·rw [hv] at e;injection e with e1 _ _;rw [e2] at e1;injection e1 with e1;injection e1 with e1 _ _;omega
 exact ⟨b,o,e2,hb,by omega,by omega,h3⟩
theorem RowsN.below {W W':World} {g q:Nat} {v:Value} {l:List EraP} (h:RowsN W g q v l) (hb:Below W.heap.size W W'):RowsN W' g q v l:=by
 obtain ⟨p,c,e,h2⟩:=h;refine ⟨p,c,e,fun h0=>?_⟩;obtain ⟨b,o,e2,hlt,hne,hnq,h3⟩:=h2 h0;exact ⟨b,o,e2,Nat.lt_of_lt_of_le hlt hb.size,hne,hnq,fun i x hx j u hu=>(hb.cell (p:=⟨b,o+i*13+j,none⟩) hlt).trans (h3 i x hx j u hu)⟩
theorem RowsN.set {W:World} {g q y:Nat} {v u:Value} {l:List EraP} (h:RowsN W g q v l) {t:Nat} (ht:t=g∨t=q):RowsN (W.setCell ⟨t,y,none⟩ u) g q v l:=by
 obtain ⟨p,c,e,h2⟩:=h;refine ⟨p,c,e,fun h0=>?_⟩;obtain ⟨b,o,e2,hlt,hne,hnq,h3⟩:=h2 h0;have hbt:b≠t:=by rcases ht with rfl|rfl<;>assumption
 exact ⟨b,o,e2,by simpa using hlt,hne,hnq,fun i x hx j u hu=>(World.cell?_setCell_other _ _ _ _ (by intro k;injection k with k;exact hbt k.symm)).trans (h3 i x hx j u hu)⟩
theorem RowsN.at_ {W:World} {g q:Nat} {v:Value} {l:List EraP} (h:RowsN W g q v l):RowsAt W W.heap.size 13 EraP.cells v l:=by
 obtain ⟨p,c,e,h2⟩:=h;refine ⟨p,c,e,fun h0=>?_⟩;obtain ⟨b,o,e2,hlt,hne,hnq,h3⟩:=h2 h0;exact ⟨b,o,e2,hlt,h3⟩
structure ZRow (W:World) (g q:Nat) (cur:List ZV):Prop where
 lt:g<W.heap.size
 fr:∀j,W.frozen? ⟨g,j,none⟩=false
 nm:∀(i:Nat) (x:ZV),cur[i]? = some x→W.cell? ⟨g,i*2,none⟩=some (.string ⟨x.1.1.name.toArray⟩)
 er:∀(i:Nat) (x:ZV),cur[i]? = some x→W.cell? ⟨g,i*2+1,none⟩=some x.1.2
 rows:∀(i:Nat) (x:ZV),cur[i]? = some x→RowsN W g q x.1.2 x.1.1.eras
theorem ZRow.below {W W':World} {g q:Nat} {cur:List ZV} (h:ZRow W g q cur) (hb:Below W.heap.size W W'):ZRow W' g q cur :=
 ⟨Nat.lt_of_lt_of_le h.lt hb.size,fun j=>(hb.frozen h.lt).trans (h.fr j),fun i x hx=>(hb.cell (p:=⟨g,i*2,none⟩) h.lt).trans (h.nm i x hx),fun i x hx=>(hb.cell (p:=⟨g,i*2+1,none⟩) h.lt).trans (h.er i x hx),fun i x hx=>(h.rows i x hx).below hb⟩
theorem ZRow.set {W:World} {g q i:Nat} {cur:List ZV} {x:ZV} {v:Value} (h:ZRow W g q cur) (hx:cur[i]? = some x) (hv:RowsN W g q v x.1.1.eras) (hs:∃p c,v=.slice p x.1.1.eras.length c):ZRow (W.setCell ⟨g,i*2+1,none⟩ v) g q (cur.set i ⟨(x.1.1,v),hs⟩):=by
 have hi:i<cur.length:=by
  rcases Nat.lt_or_ge i cur.length with h|h
  ·exact h
  ·rw [List.getElem?_eq_none h] at hx;cases hx
 have cs:∀j y,(cur.set i ⟨(x.1.1,v),hs⟩)[j]? = some y→(j=i∧y=⟨(x.1.1,v),hs⟩)∨(j≠i∧cur[j]? = some y):=fun j y hy=>by
  by_cases hj:j=i
  ·subst hj
   rw [List.getElem?_set_self hi] at hy;exact .inl ⟨rfl,(Option.some.inj hy).symm⟩
  ·rw [List.getElem?_set_ne (Ne.symm hj)] at hy
   exact .inr ⟨hj,hy⟩
 refine ⟨by simpa using h.lt,fun j=>by rw [World.frozen?_setCell];exact h.fr j,fun j y hy=>?_,fun j y hy=>?_,fun j y hy=>?_⟩
 ·rcases cs j y hy with ⟨rfl,rfl⟩|⟨_,hy⟩
  ·exact (World.cell?_setCell_other _ _ _ _ (by simp)).trans (h.nm j x hx)
  ·exact (World.cell?_setCell_other _ _ _ _ (by simp)).trans (h.nm j y hy)
 ·rcases cs j y hy with ⟨rfl,rfl⟩|⟨hj,hy⟩
  ·exact World.cell?_setCell_same' _ _ _ (by rw [h.er j x hx];rfl)
  ·exact (World.cell?_setCell_other _ _ _ _ (by simp)).trans (h.er j y hy)
 ·rcases cs j y hy with ⟨rfl,rfl⟩|⟨_,hy⟩
  ·exact hv.set (.inl rfl)
  ·exact (h.rows j y hy).set (.inl rfl)
theorem ZRow.at_ {W:World} {g q c:Nat} {cur:List ZV} (h:ZRow W g q cur):RowsAt W W.heap.size 2 encZV (.slice (some ⟨g,0,none⟩) cur.length c) cur :=
 ⟨_,c,rfl,fun _=>⟨g,0,rfl,h.lt,fun i x hx j u hu=>by
  rw [Nat.zero_add]
  match j,hu with
  | 0,hu=>cases hu;exact h.nm i x hx
  | 1,hu=>cases hu;exact h.er i x hx
  | j+2,hu=>simp [encZV,encZ] at hu⟩⟩
theorem ZRow.far {W:World} {g q y:Nat} {cur:List ZV} {v:Value} (h:ZRow W g q cur) (hne:q≠g):ZRow (W.setCell ⟨q,y,none⟩ v) g q cur :=
 ⟨by simpa using h.lt,fun j=>by rw [World.frozen?_setCell];exact h.fr j,fun i x hx=>(World.cell?_setCell_other _ _ _ _ (by intro k;injection k with k;exact hne k)).trans (h.nm i x hx),fun i x hx=>(World.cell?_setCell_other _ _ _ _ (by intro k;injection k with k;exact hne k)).trans (h.er i x hx),fun i x hx=>(h.rows i x hx).set (.inr rfl)⟩
def OwnV (T:TypeId) (k B n:Nat) (cs:List Value) (v:Value) (W:World):Prop:=W.ownsRow B T k v n cs
theorem OwnV.last (T:TypeId) (k B n:Nat) (cs:List Value):Lasts (OwnV T k B n cs):=fun _ _ _ hb h=>own_kept h hb
theorem own_mono {B B':Nat} {e:TypeId} {k:Nat} {v:Value} {n:Nat} {xs:List Value} {w:World} (h:w.ownsRow B e k v n xs) (hB:B'≤B):w.ownsRow B' e k v n xs:=by
 refine ⟨h.1,?_⟩
 rcases h.2 with h2|⟨g,cap,cur,e1,hg,rest⟩
 ·exact .inl h2
 ·exact .inr ⟨g,cap,cur,e1,Nat.le_trans hB hg,rest⟩
def CSt (w:World) (C:Array Value) (p:Option Addr) (cur:List ZV) (W:World):Prop :=
 Blk W w.heap.size 30 C∧Blk W (w.heap.size+1) 30 #[.slice none 0 0,.slice none 0 0,.slice none 0 0,.slice none 0 0]∧Below w.heap.size w W∧(0<cur.length→∃g,p=some ⟨g,0,none⟩∧w.heap.size+2≤g∧ZRow W g (w.heap.size+1) cur)
theorem CSt.below {w W W':World} {C:Array Value} {p:Option Addr} {cur:List ZV} (h:CSt w C p cur W) (hb:Below W.heap.size W W'):CSt w C p cur W' :=
 ⟨h.1.below hb h.1.lt,h.2.1.below hb h.2.1.lt,h.2.2.1.trans (hb.mono h.2.2.1.size),fun hp=>by obtain ⟨g,e,hg,hz⟩:=h.2.2.2 hp;exact ⟨g,e,hg,hz.below hb⟩⟩
theorem CSt.drew {w W:World} {C:Array Value} {p:Option Addr} {cur:List ZV} (h:CSt w C p cur W):CSt w C p cur W.drew:=h.below (Below.refl _ _).drew
theorem OwnV.form {T:TypeId} {k B n:Nat} {cs:List Value} {v:Value} {W:World} (h:OwnV T k B n cs v W):∃p c,v=.slice p n c:=by
 rcases h.2 with ⟨rfl,h0⟩|⟨g,cap,cur,rfl,_⟩
 ·exact ⟨none,0,by rw [h0]⟩
 ·exact ⟨_,cap,rfl⟩
theorem RowsAt.map_ {α β:Type} {w:World} {n k m:Nat} {enc:α→Array Value} {p:Option Addr} {c:Nat} {g:β→α} {l:List β} (h:RowsAt w n k (fun x=>enc (g x)) (.slice p m c) l) (hm:m=l.length):RowsAt w n k enc (.slice p m c) (l.map g):=by
 obtain ⟨p',c',e,h2⟩:=h
 injection e with e1 e2 e3
 subst e1;refine ⟨p,c,by rw [List.length_map,hm],fun h0=>?_⟩;obtain ⟨b,o,e4,hlt,h3⟩:=h2 (fun h=>h0 (by rw [h];rfl));refine ⟨b,o,e4,hlt,fun i x hx=>?_⟩;rw [List.getElem?_map] at hx
 cases hy:l[i]? with
 | none=>rw [hy] at hx;cases hx
 | some y=>rw [hy] at hx;cases hx;exact h3 i y hy
end Go.Proofs.YtboagmbmmoomiaaGreatDoor
