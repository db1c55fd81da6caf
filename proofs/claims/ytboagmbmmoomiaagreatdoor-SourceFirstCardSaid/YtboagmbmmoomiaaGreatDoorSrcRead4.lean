/-
  The reader of layer 13: a line is read.
-/
import Derived.Test.YtboagmbmmoomiaaGreatDoorSrcRead3
set_option linter.unusedVariables false
set_option linter.unusedSimpArgs false
set_option maxRecDepth 100000
set_option maxHeartbeats 4000000
namespace Go.Proofs.YtboagmbmmoomiaaGreatDoor
open Go.Lib (hid)
open Go.RowKit Go.Shelf
structure STabs (w:World):Prop where
 era:ETabs w
 rule:RTabs w
 line:LineWs w
theorem STabs.below {w w':World} (h:STabs w) (hb:Below w.heap.size w w'):STabs w':=⟨h.era.below hb,h.rule.below hb,h.line.below hb⟩
theorem RdOk.small {st:RdP} (h:RdOk st):RdSm st:=by
 have h1:=h.rules;have h2:=h.zones;have h3:=h.links;have h4:=h.shifts;refine ⟨by omega,by omega,by omega,by omega,fun z hz=>?_,fun l hl=>?_⟩
 ·obtain ⟨i,hi⟩:=List.mem_iff_getElem?.1 hz
  have hlt:=(List.getElem?_eq_some_iff.1 hi).1;have:=h.eras i z _ hi (List.getElem?_eq_getElem (by omega))
  omega
 ·obtain ⟨i,hi⟩:=List.mem_iff_getElem?.1 hl
  have hlt:=(List.getElem?_eq_some_iff.1 hi).1;have:=h.eras i _ l (List.getElem?_eq_getElem (by omega)) hi
  omega
theorem RdAt.base {RT B g:Nat} {tl:List Value} {st:RdP} {W:World} (h:RdAt RT B g tl st W):B≤W.heap.size:=by
 obtain ⟨h1,cur,el,v,h2,h3⟩:=h;exact Nat.le_trans h1 (Nat.le_of_lt h2.lt)
theorem relAt_index {P:Program} {o:Oper} {a:Act} {w:World} {ty:TypeId} {x y:Operand} {u v i:Value} (ho:o.op=.index ty x y) (hx:a.eval x=v) (hy:a.eval y=i) (hr:(Instr.index ty v i).run P w=.ok u w):relAt P o a w fun r _=>r=u:=by
 unfold relAt execOp;simp only [ho,hx,hy,Sem.run_bind,hr,Result.andThen_ok,Sem.run_pure];exact ⟨Below.refl _ _,rfl⟩
theorem flatS (l:List (List UInt8)):flatC encS l=strV l:=by
 induction l with
 | nil=>rfl
 | cons a l ih=>simp [flatC,encS,strV] at ih ⊢;exact ih
theorem fldGo_le:∀(l:List UInt8) (out:List (List UInt8)) (f:List UInt8) (i q:Bool),(fldGo l out f i q).1.length≤out.length+l.length+1∧∀x ∈ (fldGo l out f i q).1,x ∈ out∨x.length≤f.length+l.length
 | [],out,f,i,q=>by
  rcases q with _|_
  ·rcases i with _|_
   ·exact ⟨by simp [fldGo],fun x hx=>.inl hx⟩
   ·refine ⟨by simp [fldGo],fun x hx=>?_⟩
    rcases List.mem_append.1 (show x ∈ out++[f] from hx) with hx|hx
    ·exact .inl hx
    ·rw [List.mem_singleton.1 hx];exact .inr (by simp)
  ·exact ⟨by simp [fldGo],fun x hx=>by cases (show x ∈ [] from hx)⟩
 | c::l,out,f,i,q=>by
  have h1:=fldGo_le l out f i false;have h2:=fldGo_le l out (f++[c]) i true;have h3:=fldGo_le l out f true true;have h4:=fldGo_le l (out++[f]) [] false false;have h5:=fldGo_le l out f false false;have h6:=fldGo_le l out (f++[c]) true false;have s0:∀ {r:List (List UInt8) × Int},(r.1.length≤out.length+l.length+1∧∀x ∈ r.1,x ∈ out∨x.length≤f.length+l.length)→(r.1.length≤out.length+(c::l).length+1∧∀x ∈ r.1,x ∈ out∨x.length≤f.length+(c::l).length):=fun h=>⟨by have:=h.1;simp;omega,fun x hx=>(h.2 x hx).imp id (fun h=>by simp;omega)⟩
  have s1:∀ {r:List (List UInt8) × Int},(r.1.length≤out.length+l.length+1∧∀x ∈ r.1,x ∈ out∨x.length≤(f++[c]).length+l.length)→(r.1.length≤out.length+(c::l).length+1∧∀x ∈ r.1,x ∈ out∨x.length≤f.length+(c::l).length):=fun h=>⟨by have:=h.1;simp;omega,fun x hx=>(h.2 x hx).imp id (fun h=>by simp at h ⊢;omega)⟩
  have s2:∀ {r:List (List UInt8) × Int},(r.1.length≤(out++[f]).length+l.length+1∧∀x ∈ r.1,x ∈ out++[f]∨x.length≤([]:List UInt8).length+l.length)→(r.1.length≤out.length+(c::l).length+1∧∀x ∈ r.1,x ∈ out∨x.length≤f.length+(c::l).length):=fun h=>⟨by have:=h.1;simp at this ⊢;omega,fun x hx=>by
   rcases h.2 x hx with h|h
   ·rcases List.mem_append.1 h with h|h
    ·exact .inl h
    ·rw [List.mem_singleton.1 h];exact .inr (by omega)
   ·exact .inr (by simp at h ⊢;omega)⟩
  unfold fldGo
  split
  ·split
   ·exact s0 h1
   ·split
    ·exact s1 h2
    ·exact ⟨by simp,fun x hx=>by cases hx⟩
  ·split
   ·exact s0 h3
   ·split
    ·rcases i with _|_
     ·exact ⟨by simp;omega,fun x hx=>.inl hx⟩
     ·refine ⟨by simp,fun x hx=>?_⟩
      rcases List.mem_append.1 (show x ∈ out++[f] from hx) with hx|hx
      ·exact .inl hx
      ·rw [List.mem_singleton.1 hx];exact .inr (by simp)
    ·split
     ·cases i
      ·exact s0 h5
      ·exact s2 h4
     ·split
      ·exact s1 h6
      ·exact ⟨by simp,fun x hx=>by cases hx⟩
theorem fields_le (x:List UInt8):(fieldsR x).1.length≤301∧∀l ∈ (fieldsR x).1,l.length≤300:=by
 unfold fieldsR
 split
 ·exact ⟨by simp,fun l hl=>by cases hl⟩
 ·have h:=fldGo_le x [] [] false false
  refine ⟨by have:=h.1;simp at this;omega,fun l hl=>?_⟩
  rcases h.2 l hl with h|h
  ·cases h
  ·simp at h;omega
theorem sread_any (B g:Nat) (st:RdP) (n:Int) (s:ByteArray) (w:World) (h:RdG B g n st w) (hT:∀W,Below w.heap.size w W∨Below B w W→STabs W) (hok:RdOk st) (hs:s.size≤1048576) :
 Calls Tryz.prog 45 #[.pointer (some ⟨g,0,none⟩),.string s] w fun e w'=>e=.returned (errV (lineS st n s.data.toList).2)∧((lineS st n s.data.toList).2=0→RdG B g n (lineS st n s.data.toList).1 w')∧(∃st',RdG B g n st' w')∧Below B w w':=by
 have HL:=hid (lexfields_any s w hs);have hfl:=fields_le s.data.toList;obtain ⟨fl,fe,hx⟩:∃fl fe,fieldsR s.data.toList=(fl,fe):=⟨_,_,rfl⟩;have HX:=hid (show lineS st n s.data.toList=if fe≠0 then (st,fe) else fieldsS st n fl from by unfold lineS;rw [hx]);unfold FieldsPost at HL;rw [hx] at HL hfl;simp only at HL hfl;have HFL:=hid hfl;have HS:=hid h;have HT:=hid hT;have HOK:=hid hok;have HB:=hid h.base;clear hx hfl h hT hok hs
 by_cases hfe:fe=0
 ·subst hfe
  have HF0:=hid (HX.out.trans (if_neg (by simp)));clear HX
  cases fl with
  | nil =>
   have HF:=hid (HF0.out)
   go_enter Tryz.func45,Tryz.ntmps45;go_wp2_with fail
   refine HL.out.mono ?_;rintro e1 w1 ⟨(⟨_,v,rfl,ho⟩|⟨h0,_⟩),hb⟩
   ·obtain ⟨p,c,rfl⟩:=own_form ho
    have HB2:=hid hb;clear ho hb;go_wp2_with fail
    refine (wrong_any 0 _).mono ?_;rintro e2 w2 ⟨rfl,rfl⟩;go_wp2_with fail
    go_ret
    exact ⟨by rw [HF.out];rfl,fun _=>by rw [HF.out];exact HS.out.below HB2.out,⟨st,HS.out.below HB2.out⟩,HB2.out.mono HB.out⟩
   ·exact absurd rfl h0
  | cons a f =>
   go_enter Tryz.func45,Tryz.ntmps45;go_wp2_with fail
   refine HL.out.mono ?_;rintro e1 w1 ⟨hlex,hb⟩
   rcases hlex with ⟨_,v,rfl,ho⟩|⟨h0,_⟩
   ·obtain ⟨bf,c,rfl⟩:=own_some ho (by simp)
    have hcc:(a::f).length≤c:=by
     rcases ho.2 with ⟨hx,_⟩|⟨g9,cap,cur9,hx,_,_,hnc,_⟩
     ·cases hx
     ·simp only [Value.slice.injEq] at hx;omega
    rw [flatS] at ho;have hbk:=row_blk ho rfl;have hrow:=StrRow.own ho (by obtain ⟨C,hC⟩:=hbk;exact hC.lt);have HS1:=hid (And.intro (HS.out.below hb) (And.intro (hrow) (And.intro (hbk) (And.intro (hb.mono HB.out) (show STabs w1 from HT.out _ (.inl hb))))));clear ho hb hrow hbk HS HL;simp only [List.length_cons] at *;obtain ⟨hBg,cur,el,⟨v1,v2,v3,v4,u1,u2,u3,u4⟩,hblk,hrr⟩:=HS1.out.1;have z9:=hblk.cell_ (i:=9) rfl;clear hrr hBg;clear hblk;obtain ⟨ob,hob⟩:∃ob,st.op=ob:=⟨_,rfl⟩;rw [hob] at z9;have HOB:=hid hob;clear hob;have HLE:=hid (fun l (hm:l ∈ a::f)=>show l.length≤1048576 from Nat.le_trans (HFL.out.2 l hm) (by decide));have HFN:=hid (show f.length+1≤1000000 from by have:=HFL.out.1;simp at this;omega);have HCC:=hid hcc
    cases ob with
    | true =>
     have HF:=hid (show lineS st n s.data.toList=eraS st n (a::f) from HF0.out.trans (if_pos HOB.out));have HE:=hid (sera_any B g st n (some ⟨bf,0,none⟩) (f.length+1) c (a::f) w1 HS1.out.1 HS1.out.2.2.2.2.era ⟨fun _=>⟨bf,0,rfl,HS1.out.2.1⟩⟩ rfl HLE.out HFN.out HOK.out.small (HOK.out.op HOB.out) HOK.out.zones.1);have HBW:=hid HS1.out.2.2.2.1;clear HS1;go_wp2_with fail
     refine HE.out.mono ?_;rintro e2 w2 ⟨rfl,hrd,hbl⟩;have HR:=hid (And.intro hrd (HBW.out.trans hbl));clear hrd hbl z9;go_wp2_with fail
     go_ret
     exact ⟨by rw [HF.out];rfl,fun _=>by rw [HF.out];exact HR.out.1,⟨_,HR.out.1⟩,HR.out.2⟩
    | false =>
     have HF1:=hid (show lineS st n s.data.toList=wordS st n a f from HF0.out.trans (if_neg (by rw [HOB.out];decide)));obtain ⟨k,we,hwk⟩:∃k we,wordR lineL 1 a=(k,we):=⟨_,_,rfl⟩;have HW:=hid (wline_any ⟨a.toArray⟩ w1 HS1.out.2.2.2.2.line (by simpa [ByteArray.size] using HLE.out a (List.mem_cons_self ..)));rw [show (⟨a.toArray⟩:ByteArray).data.toList=a from by simp,hwk] at HW;have HFW:=hid (show lineS st n s.data.toList=if we≠0 then (st,we) else if k=1 then ruleS st n f else if k=2 then zoneS st n f else if k=3 then linkS st n f else shiftS st n f from HF1.out.trans (by unfold wordS;rw [hwk]));have HKB:=hid (show we=0→1≤k∧k<5 from fun h=>by have:=wordR_found (ws:=lineL) (f:=1) (s:=a) (by rw [hwk];exact h);rw [hwk] at this;exact this);have z0:=HS1.out.2.1.at_ 0 a rfl;rw [Nat.add_zero] at z0;clear hwk HF1 HF0;go_wp2_with fail
     refine HW.out.mono ?_;rintro e2 w2 ⟨rfl,hb2⟩;have HS2:=hid (And.intro (HS1.out.1.below hb2) (And.intro (HS1.out.2.1.below hb2) (And.intro (show (∃Y,Blk w2 bf 9 Y) from by obtain ⟨Y,hY⟩:=HS1.out.2.2.1;exact ⟨Y,hY.below hb2 hY.lt⟩) (And.intro (HS1.out.2.2.2.1.trans (hb2.mono HS1.out.1.base)) (show B≤w2.heap.size from (HS1.out.1.below hb2).base)))));clear hb2 HS1 HW z0 z9
     by_cases hwe:we=0
     ·subst hwe
      have hkb:=HKB.out rfl;clear HKB
      rcases (by omega:k=1∨k=2∨k=3∨k=4) with rfl|rfl|rfl|rfl
      ·clear hkb
       have HF:=hid (show lineS st n s.data.toList=ruleS st n f from HFW.out.trans (by rw [if_neg (by decide),if_pos rfl]));have hix:∀W,(Instr.index 152 (.agg #[.func (.func 84) #[.pointer (some ⟨g,0,none⟩)] #[],.func (.func 85) #[.pointer (some ⟨g,0,none⟩)] #[],.func (.func 86) #[.pointer (some ⟨g,0,none⟩)] #[],.func (.func 87) #[.pointer (some ⟨g,0,none⟩)] #[]]) (.int .i64 0)).run Tryz.prog W=.ok (.func (.func 84) #[.pointer (some ⟨g,0,none⟩)] #[]) W:=fun _=>by kernel_rfl
       clear HFW
       by_cases hc1:c=1
       ·have hcb1:(1:Int)≤(f.length:Int)+1:=by omega
        have hcb2:(f.length:Int)+1≤(c:Int):=by have:=HCC.out;omega
        have hcb3:1≤c:=by have:=HCC.out;omega
        go_wp2_with fail
        refine wp_region_vals 14 (fun W=>RdG B g n st W∧StrRow W bf 0 (a::f)∧(∃Y,Blk W bf 9 Y)∧Below B w W∧B≤W.heap.size) (by kernel_rfl) (by kernel_rfl) rfl (⟨HS2.out.1.below (Below.refl _ _).drew,HS2.out.2.1.below (Below.refl _ _).drew,HS2.out.2.2.1,HS2.out.2.2.2.1.drew,HS2.out.2.2.2.2⟩) (fun W W2 h hb=>⟨h.1.below hb,h.2.1.below hb,by obtain ⟨Y,hY⟩:=h.2.2.1;exact ⟨Y,hY.below hb hY.lt⟩,h.2.2.2.1.trans (hb.mono h.2.2.2.2),Nat.le_trans h.2.2.2.2 hb.size⟩) ?_
        iterate 11
         apply exV_ex rfl ?_ (fun K hK=>?_)
         any_goals
          intro W hC;go_simp
          all_goals first|exact ⟨Below.refl _ _,rfl⟩|exact Below.refl _ _
         any_goals
          revert hK
          intro hK;go_simp;refine hK _ ?_;clear hK K
        apply exV_ex rfl ?ix1 (fun K hK=>?ixn1)
        case ix1 =>
         intro W hC;exact relAt_index rfl rfl rfl (hix W)
        case' ixn1 =>
         go_simp;refine hK _ ?_;clear hK K
        iterate 2
         apply exV_ex rfl ?_ (fun K hK=>?_)
         any_goals
          intro W hC;go_simp
          all_goals first|exact ⟨Below.refl _ _,rfl⟩|exact Below.refl _ _
         any_goals
          revert hK
          intro hK;go_simp;refine hK _ ?_;clear hK K
        refine exV_end fun W hC=>?_
        have HCL:=hid (srule_any B g st n bf 0 f.length 0 f W hC.1 (HT.out W (.inr hC.2.2.2.1)).rule (show StrRow W bf 0 f from ⟨hC.2.1.lt,fun j l hl=>absurd hl (by rw [List.getElem?_eq_none (by have:=HCC.out;omega)];simp)⟩) rfl (fun l hm=>HLE.out l (List.mem_cons_of_mem _ hm)) (by have:=HFN.out;omega) HOK.out.small);have HBW:=hid hC.2.2.2.1;clear hC HS2 hix;go_wp2_with fail
        refine HCL.out.mono ?_;rintro e3 w3 ⟨rfl,hrd,hbl⟩;have HR:=hid (And.intro hrd (And.intro (show ∃st2,RdG B g n st2 w3 from ⟨_,hrd⟩) (HBW.out.trans hbl)));clear hrd hbl;go_wp2_with fail
        go_ret
        exact ⟨by rw [HF.out];rfl,fun _=>by rw [HF.out];exact HR.out.1,HR.out.2⟩
       ·have hcb1:(1:Int)≤(f.length:Int)+1:=by omega
        have hcb2:(f.length:Int)+1≤(c:Int):=by have:=HCC.out;omega
        have hcb3:1≤c:=by have:=HCC.out;omega
        go_wp2_with fail
        refine wp_region_vals 14 (fun W=>RdG B g n st W∧StrRow W bf 0 (a::f)∧(∃Y,Blk W bf 9 Y)∧Below B w W∧B≤W.heap.size) (by kernel_rfl) (by kernel_rfl) rfl (⟨HS2.out.1.below (Below.refl _ _).drew,HS2.out.2.1.below (Below.refl _ _).drew,HS2.out.2.2.1,HS2.out.2.2.2.1.drew,HS2.out.2.2.2.2⟩) (fun W W2 h hb=>⟨h.1.below hb,h.2.1.below hb,by obtain ⟨Y,hY⟩:=h.2.2.1;exact ⟨Y,hY.below hb hY.lt⟩,h.2.2.2.1.trans (hb.mono h.2.2.2.2),Nat.le_trans h.2.2.2.2 hb.size⟩) ?_
        iterate 11
         apply exV_ex rfl ?_ (fun K hK=>?_)
         any_goals
          intro W hC;go_simp
          all_goals first|exact ⟨Below.refl _ _,rfl⟩|exact Below.refl _ _
         any_goals
          revert hK
          intro hK;go_simp;refine hK _ ?_;clear hK K
        apply exV_ex rfl ?ix2 (fun K hK=>?ixn2)
        case ix2 =>
         intro W hC;exact relAt_index rfl rfl rfl (hix W)
        case' ixn2 =>
         go_simp;refine hK _ ?_;clear hK K
        iterate 2
         apply exV_ex rfl ?_ (fun K hK=>?_)
         any_goals
          intro W hC;go_simp
          all_goals first|exact ⟨Below.refl _ _,rfl⟩|exact Below.refl _ _
         any_goals
          revert hK
          intro hK;go_simp;refine hK _ ?_;clear hK K
        refine exV_end fun W hC=>?_
        have HCL:=hid (srule_any B g st n bf 1 f.length (c-1) f W hC.1 (HT.out W (.inr hC.2.2.2.1)).rule (show StrRow W bf 1 f from hC.2.1.tail) rfl (fun l hm=>HLE.out l (List.mem_cons_of_mem _ hm)) (by have:=HFN.out;omega) HOK.out.small);have HBW:=hid hC.2.2.2.1;clear hC HS2 hix;go_wp2_with fail
        refine HCL.out.mono ?_;rintro e3 w3 ⟨rfl,hrd,hbl⟩;have HR:=hid (And.intro hrd (And.intro (show ∃st2,RdG B g n st2 w3 from ⟨_,hrd⟩) (HBW.out.trans hbl)));clear hrd hbl;go_wp2_with fail
        go_ret
        exact ⟨by rw [HF.out];rfl,fun _=>by rw [HF.out];exact HR.out.1,HR.out.2⟩
      ·clear hkb
       have HF:=hid (show lineS st n s.data.toList=zoneS st n f from HFW.out.trans (by rw [if_neg (by decide),if_neg (by decide),if_pos rfl]));have hix:∀W,(Instr.index 152 (.agg #[.func (.func 84) #[.pointer (some ⟨g,0,none⟩)] #[],.func (.func 85) #[.pointer (some ⟨g,0,none⟩)] #[],.func (.func 86) #[.pointer (some ⟨g,0,none⟩)] #[],.func (.func 87) #[.pointer (some ⟨g,0,none⟩)] #[]]) (.int .i64 1)).run Tryz.prog W=.ok (.func (.func 85) #[.pointer (some ⟨g,0,none⟩)] #[]) W:=fun _=>by kernel_rfl
       clear HFW
       by_cases hc1:c=1
       ·have hcb1:(1:Int)≤(f.length:Int)+1:=by omega
        have hcb2:(f.length:Int)+1≤(c:Int):=by have:=HCC.out;omega
        have hcb3:1≤c:=by have:=HCC.out;omega
        go_wp2_with fail
        refine wp_region_vals 14 (fun W=>RdG B g n st W∧StrRow W bf 0 (a::f)∧(∃Y,Blk W bf 9 Y)∧Below B w W∧B≤W.heap.size) (by kernel_rfl) (by kernel_rfl) rfl (⟨HS2.out.1.below (Below.refl _ _).drew,HS2.out.2.1.below (Below.refl _ _).drew,HS2.out.2.2.1,HS2.out.2.2.2.1.drew,HS2.out.2.2.2.2⟩) (fun W W2 h hb=>⟨h.1.below hb,h.2.1.below hb,by obtain ⟨Y,hY⟩:=h.2.2.1;exact ⟨Y,hY.below hb hY.lt⟩,h.2.2.2.1.trans (hb.mono h.2.2.2.2),Nat.le_trans h.2.2.2.2 hb.size⟩) ?_
        iterate 11
         apply exV_ex rfl ?_ (fun K hK=>?_)
         any_goals
          intro W hC;go_simp
          all_goals first|exact ⟨Below.refl _ _,rfl⟩|exact Below.refl _ _
         any_goals
          revert hK
          intro hK;go_simp;refine hK _ ?_;clear hK K
        apply exV_ex rfl ?ix3 (fun K hK=>?ixn3)
        case ix3 =>
         intro W hC;exact relAt_index rfl rfl rfl (hix W)
        case' ixn3 =>
         go_simp;refine hK _ ?_;clear hK K
        iterate 2
         apply exV_ex rfl ?_ (fun K hK=>?_)
         any_goals
          intro W hC;go_simp
          all_goals first|exact ⟨Below.refl _ _,rfl⟩|exact Below.refl _ _
         any_goals
          revert hK
          intro hK;go_simp;refine hK _ ?_;clear hK K
        refine exV_end fun W hC=>?_
        have HCL:=hid (szone_any B g st n bf 0 0 f.length f W hC.1 (fun V hV=>(HT.out V (.inr (by rcases hV with hV|hV;exact hC.2.2.2.1.trans (hV.mono hC.2.2.2.2);exact hC.2.2.2.1.trans hV))).era) (show StrRow W bf 0 f from ⟨hC.2.1.lt,fun j l hl=>absurd hl (by rw [List.getElem?_eq_none (by have:=HCC.out;omega)];simp)⟩) rfl (fun _=>hC.2.2.1) (by have:=HCC.out;omega) (by have:=HFN.out;omega) (fun l hm=>HLE.out l (List.mem_cons_of_mem _ hm)) HOK.out.small (by have:=HOK.out.zones;omega) HOK.out.zones.1);have HBW:=hid hC.2.2.2.1;clear hC HS2 hix;go_wp2_with fail
        refine HCL.out.mono ?_;rintro e3 w3 ⟨rfl,hrd,hex,hbl⟩;have HR:=hid (And.intro hrd (And.intro hex (HBW.out.trans hbl)));clear hrd hbl;go_wp2_with fail
        go_ret
        exact ⟨by rw [HF.out];rfl,fun h0=>by rw [HF.out] at h0 ⊢;exact HR.out.1 h0,HR.out.2⟩
       ·have hcb1:(1:Int)≤(f.length:Int)+1:=by omega
        have hcb2:(f.length:Int)+1≤(c:Int):=by have:=HCC.out;omega
        have hcb3:1≤c:=by have:=HCC.out;omega
        go_wp2_with fail
        refine wp_region_vals 14 (fun W=>RdG B g n st W∧StrRow W bf 0 (a::f)∧(∃Y,Blk W bf 9 Y)∧Below B w W∧B≤W.heap.size) (by kernel_rfl) (by kernel_rfl) rfl (⟨HS2.out.1.below (Below.refl _ _).drew,HS2.out.2.1.below (Below.refl _ _).drew,HS2.out.2.2.1,HS2.out.2.2.2.1.drew,HS2.out.2.2.2.2⟩) (fun W W2 h hb=>⟨h.1.below hb,h.2.1.below hb,by obtain ⟨Y,hY⟩:=h.2.2.1;exact ⟨Y,hY.below hb hY.lt⟩,h.2.2.2.1.trans (hb.mono h.2.2.2.2),Nat.le_trans h.2.2.2.2 hb.size⟩) ?_
        iterate 11
         apply exV_ex rfl ?_ (fun K hK=>?_)
         any_goals
          intro W hC;go_simp
          all_goals first|exact ⟨Below.refl _ _,rfl⟩|exact Below.refl _ _
         any_goals
          revert hK
          intro hK;go_simp;refine hK _ ?_;clear hK K
        apply exV_ex rfl ?ix4 (fun K hK=>?ixn4)
        case ix4 =>
         intro W hC;exact relAt_index rfl rfl rfl (hix W)
        case' ixn4 =>
         go_simp;refine hK _ ?_;clear hK K
        iterate 2
         apply exV_ex rfl ?_ (fun K hK=>?_)
         any_goals
          intro W hC;go_simp
          all_goals first|exact ⟨Below.refl _ _,rfl⟩|exact Below.refl _ _
         any_goals
          revert hK
          intro hK;go_simp;refine hK _ ?_;clear hK K
        refine exV_end fun W hC=>?_
        have HCL:=hid (szone_any B g st n bf 1 (c-1) f.length f W hC.1 (fun V hV=>(HT.out V (.inr (by rcases hV with hV|hV;exact hC.2.2.2.1.trans (hV.mono hC.2.2.2.2);exact hC.2.2.2.1.trans hV))).era) (show StrRow W bf 1 f from hC.2.1.tail) rfl (fun _=>hC.2.2.1) (by have:=HCC.out;omega) (by have:=HFN.out;omega) (fun l hm=>HLE.out l (List.mem_cons_of_mem _ hm)) HOK.out.small (by have:=HOK.out.zones;omega) HOK.out.zones.1);have HBW:=hid hC.2.2.2.1;clear hC HS2 hix;go_wp2_with fail
        refine HCL.out.mono ?_;rintro e3 w3 ⟨rfl,hrd,hex,hbl⟩;have HR:=hid (And.intro hrd (And.intro hex (HBW.out.trans hbl)));clear hrd hbl;go_wp2_with fail
        go_ret
        exact ⟨by rw [HF.out];rfl,fun h0=>by rw [HF.out] at h0 ⊢;exact HR.out.1 h0,HR.out.2⟩
      ·clear hkb
       have HF:=hid (show lineS st n s.data.toList=linkS st n f from HFW.out.trans (by rw [if_neg (by decide),if_neg (by decide),if_neg (by decide),if_pos rfl]));have hix:∀W,(Instr.index 152 (.agg #[.func (.func 84) #[.pointer (some ⟨g,0,none⟩)] #[],.func (.func 85) #[.pointer (some ⟨g,0,none⟩)] #[],.func (.func 86) #[.pointer (some ⟨g,0,none⟩)] #[],.func (.func 87) #[.pointer (some ⟨g,0,none⟩)] #[]]) (.int .i64 2)).run Tryz.prog W=.ok (.func (.func 86) #[.pointer (some ⟨g,0,none⟩)] #[]) W:=fun _=>by kernel_rfl
       clear HFW
       by_cases hc1:c=1
       ·have hcb1:(1:Int)≤(f.length:Int)+1:=by omega
        have hcb2:(f.length:Int)+1≤(c:Int):=by have:=HCC.out;omega
        have hcb3:1≤c:=by have:=HCC.out;omega
        go_wp2_with fail
        refine wp_region_vals 14 (fun W=>RdG B g n st W∧StrRow W bf 0 (a::f)∧(∃Y,Blk W bf 9 Y)∧Below B w W∧B≤W.heap.size) (by kernel_rfl) (by kernel_rfl) rfl (⟨HS2.out.1.below (Below.refl _ _).drew,HS2.out.2.1.below (Below.refl _ _).drew,HS2.out.2.2.1,HS2.out.2.2.2.1.drew,HS2.out.2.2.2.2⟩) (fun W W2 h hb=>⟨h.1.below hb,h.2.1.below hb,by obtain ⟨Y,hY⟩:=h.2.2.1;exact ⟨Y,hY.below hb hY.lt⟩,h.2.2.2.1.trans (hb.mono h.2.2.2.2),Nat.le_trans h.2.2.2.2 hb.size⟩) ?_
        iterate 11
         apply exV_ex rfl ?_ (fun K hK=>?_)
         any_goals
          intro W hC;go_simp
          all_goals first|exact ⟨Below.refl _ _,rfl⟩|exact Below.refl _ _
         any_goals
          revert hK
          intro hK;go_simp;refine hK _ ?_;clear hK K
        apply exV_ex rfl ?ix5 (fun K hK=>?ixn5)
        case ix5 =>
         intro W hC;exact relAt_index rfl rfl rfl (hix W)
        case' ixn5 =>
         go_simp;refine hK _ ?_;clear hK K
        iterate 2
         apply exV_ex rfl ?_ (fun K hK=>?_)
         any_goals
          intro W hC;go_simp
          all_goals first|exact ⟨Below.refl _ _,rfl⟩|exact Below.refl _ _
         any_goals
          revert hK
          intro hK;go_simp;refine hK _ ?_;clear hK K
        refine exV_end fun W hC=>?_
        have HCL:=hid (slink_any B g st n bf 0 f.length 0 f W hC.1 (HT.out W (.inr hC.2.2.2.1)).rule (show StrRow W bf 0 f from ⟨hC.2.1.lt,fun j l hl=>absurd hl (by rw [List.getElem?_eq_none (by have:=HCC.out;omega)];simp)⟩) rfl (fun l hm=>HLE.out l (List.mem_cons_of_mem _ hm)) (by have:=HFN.out;omega) HOK.out.small);have HBW:=hid hC.2.2.2.1;clear hC HS2 hix;go_wp2_with fail
        refine HCL.out.mono ?_;rintro e3 w3 ⟨rfl,hrd,hbl⟩;have HR:=hid (And.intro hrd (And.intro (show ∃st2,RdG B g n st2 w3 from ⟨_,hrd⟩) (HBW.out.trans hbl)));clear hrd hbl;go_wp2_with fail
        go_ret
        exact ⟨by rw [HF.out];rfl,fun _=>by rw [HF.out];exact HR.out.1,HR.out.2⟩
       ·have hcb1:(1:Int)≤(f.length:Int)+1:=by omega
        have hcb2:(f.length:Int)+1≤(c:Int):=by have:=HCC.out;omega
        have hcb3:1≤c:=by have:=HCC.out;omega
        go_wp2_with fail
        refine wp_region_vals 14 (fun W=>RdG B g n st W∧StrRow W bf 0 (a::f)∧(∃Y,Blk W bf 9 Y)∧Below B w W∧B≤W.heap.size) (by kernel_rfl) (by kernel_rfl) rfl (⟨HS2.out.1.below (Below.refl _ _).drew,HS2.out.2.1.below (Below.refl _ _).drew,HS2.out.2.2.1,HS2.out.2.2.2.1.drew,HS2.out.2.2.2.2⟩) (fun W W2 h hb=>⟨h.1.below hb,h.2.1.below hb,by obtain ⟨Y,hY⟩:=h.2.2.1;exact ⟨Y,hY.below hb hY.lt⟩,h.2.2.2.1.trans (hb.mono h.2.2.2.2),Nat.le_trans h.2.2.2.2 hb.size⟩) ?_
        iterate 11
         apply exV_ex rfl ?_ (fun K hK=>?_)
         any_goals
          intro W hC;go_simp
          all_goals first|exact ⟨Below.refl _ _,rfl⟩|exact Below.refl _ _
         any_goals
          revert hK
          intro hK;go_simp;refine hK _ ?_;clear hK K
        apply exV_ex rfl ?ix6 (fun K hK=>?ixn6)
        case ix6 =>
         intro W hC;exact relAt_index rfl rfl rfl (hix W)
        case' ixn6 =>
         go_simp;refine hK _ ?_;clear hK K
        iterate 2
         apply exV_ex rfl ?_ (fun K hK=>?_)
         any_goals
          intro W hC;go_simp
          all_goals first|exact ⟨Below.refl _ _,rfl⟩|exact Below.refl _ _
         any_goals
          revert hK
          intro hK;go_simp;refine hK _ ?_;clear hK K
        refine exV_end fun W hC=>?_
        have HCL:=hid (slink_any B g st n bf 1 f.length (c-1) f W hC.1 (HT.out W (.inr hC.2.2.2.1)).rule (show StrRow W bf 1 f from hC.2.1.tail) rfl (fun l hm=>HLE.out l (List.mem_cons_of_mem _ hm)) (by have:=HFN.out;omega) HOK.out.small);have HBW:=hid hC.2.2.2.1;clear hC HS2 hix;go_wp2_with fail
        refine HCL.out.mono ?_;rintro e3 w3 ⟨rfl,hrd,hbl⟩;have HR:=hid (And.intro hrd (And.intro (show ∃st2,RdG B g n st2 w3 from ⟨_,hrd⟩) (HBW.out.trans hbl)));clear hrd hbl;go_wp2_with fail
        go_ret
        exact ⟨by rw [HF.out];rfl,fun _=>by rw [HF.out];exact HR.out.1,HR.out.2⟩
      ·clear hkb
       have HF:=hid (show lineS st n s.data.toList=shiftS st n f from HFW.out.trans (by rw [if_neg (by decide),if_neg (by decide),if_neg (by decide),if_neg (by decide)]));have hix:∀W,(Instr.index 152 (.agg #[.func (.func 84) #[.pointer (some ⟨g,0,none⟩)] #[],.func (.func 85) #[.pointer (some ⟨g,0,none⟩)] #[],.func (.func 86) #[.pointer (some ⟨g,0,none⟩)] #[],.func (.func 87) #[.pointer (some ⟨g,0,none⟩)] #[]]) (.int .i64 3)).run Tryz.prog W=.ok (.func (.func 87) #[.pointer (some ⟨g,0,none⟩)] #[]) W:=fun _=>by kernel_rfl
       clear HFW
       by_cases hc1:c=1
       ·have hcb1:(1:Int)≤(f.length:Int)+1:=by omega
        have hcb2:(f.length:Int)+1≤(c:Int):=by have:=HCC.out;omega
        have hcb3:1≤c:=by have:=HCC.out;omega
        go_wp2_with fail
        refine wp_region_vals 14 (fun W=>RdG B g n st W∧StrRow W bf 0 (a::f)∧(∃Y,Blk W bf 9 Y)∧Below B w W∧B≤W.heap.size) (by kernel_rfl) (by kernel_rfl) rfl (⟨HS2.out.1.below (Below.refl _ _).drew,HS2.out.2.1.below (Below.refl _ _).drew,HS2.out.2.2.1,HS2.out.2.2.2.1.drew,HS2.out.2.2.2.2⟩) (fun W W2 h hb=>⟨h.1.below hb,h.2.1.below hb,by obtain ⟨Y,hY⟩:=h.2.2.1;exact ⟨Y,hY.below hb hY.lt⟩,h.2.2.2.1.trans (hb.mono h.2.2.2.2),Nat.le_trans h.2.2.2.2 hb.size⟩) ?_
        iterate 11
         apply exV_ex rfl ?_ (fun K hK=>?_)
         any_goals
          intro W hC;go_simp
          all_goals first|exact ⟨Below.refl _ _,rfl⟩|exact Below.refl _ _
         any_goals
          revert hK
          intro hK;go_simp;refine hK _ ?_;clear hK K
        apply exV_ex rfl ?ix7 (fun K hK=>?ixn7)
        case ix7 =>
         intro W hC;exact relAt_index rfl rfl rfl (hix W)
        case' ixn7 =>
         go_simp;refine hK _ ?_;clear hK K
        iterate 2
         apply exV_ex rfl ?_ (fun K hK=>?_)
         any_goals
          intro W hC;go_simp
          all_goals first|exact ⟨Below.refl _ _,rfl⟩|exact Below.refl _ _
         any_goals
          revert hK
          intro hK;go_simp;refine hK _ ?_;clear hK K
        refine exV_end fun W hC=>?_
        have HCL:=hid (sshift_any B g st n bf 0 f.length 0 f W hC.1 (HT.out W (.inr hC.2.2.2.1)).rule (show StrRow W bf 0 f from ⟨hC.2.1.lt,fun j l hl=>absurd hl (by rw [List.getElem?_eq_none (by have:=HCC.out;omega)];simp)⟩) rfl (fun l hm=>HLE.out l (List.mem_cons_of_mem _ hm)) (by have:=HFN.out;omega) HOK.out.small);have HBW:=hid hC.2.2.2.1;clear hC HS2 hix;go_wp2_with fail
        refine HCL.out.mono ?_;rintro e3 w3 ⟨rfl,hrd,hbl⟩;have HR:=hid (And.intro hrd (And.intro (show ∃st2,RdG B g n st2 w3 from ⟨_,hrd⟩) (HBW.out.trans hbl)));clear hrd hbl;go_wp2_with fail
        go_ret
        exact ⟨by rw [HF.out];rfl,fun _=>by rw [HF.out];exact HR.out.1,HR.out.2⟩
       ·have hcb1:(1:Int)≤(f.length:Int)+1:=by omega
        have hcb2:(f.length:Int)+1≤(c:Int):=by have:=HCC.out;omega
        have hcb3:1≤c:=by have:=HCC.out;omega
        go_wp2_with fail
        refine wp_region_vals 14 (fun W=>RdG B g n st W∧StrRow W bf 0 (a::f)∧(∃Y,Blk W bf 9 Y)∧Below B w W∧B≤W.heap.size) (by kernel_rfl) (by kernel_rfl) rfl (⟨HS2.out.1.below (Below.refl _ _).drew,HS2.out.2.1.below (Below.refl _ _).drew,HS2.out.2.2.1,HS2.out.2.2.2.1.drew,HS2.out.2.2.2.2⟩) (fun W W2 h hb=>⟨h.1.below hb,h.2.1.below hb,by obtain ⟨Y,hY⟩:=h.2.2.1;exact ⟨Y,hY.below hb hY.lt⟩,h.2.2.2.1.trans (hb.mono h.2.2.2.2),Nat.le_trans h.2.2.2.2 hb.size⟩) ?_
        iterate 11
         apply exV_ex rfl ?_ (fun K hK=>?_)
         any_goals
          intro W hC;go_simp
          all_goals first|exact ⟨Below.refl _ _,rfl⟩|exact Below.refl _ _
         any_goals
          revert hK
          intro hK;go_simp;refine hK _ ?_;clear hK K
        apply exV_ex rfl ?ix8 (fun K hK=>?ixn8)
        case ix8 =>
         intro W hC;exact relAt_index rfl rfl rfl (hix W)
        case' ixn8 =>
         go_simp;refine hK _ ?_;clear hK K
        iterate 2
         apply exV_ex rfl ?_ (fun K hK=>?_)
         any_goals
          intro W hC;go_simp
          all_goals first|exact ⟨Below.refl _ _,rfl⟩|exact Below.refl _ _
         any_goals
          revert hK
          intro hK;go_simp;refine hK _ ?_;clear hK K
        refine exV_end fun W hC=>?_
        have HCL:=hid (sshift_any B g st n bf 1 f.length (c-1) f W hC.1 (HT.out W (.inr hC.2.2.2.1)).rule (show StrRow W bf 1 f from hC.2.1.tail) rfl (fun l hm=>HLE.out l (List.mem_cons_of_mem _ hm)) (by have:=HFN.out;omega) HOK.out.small);have HBW:=hid hC.2.2.2.1;clear hC HS2 hix;go_wp2_with fail
        refine HCL.out.mono ?_;rintro e3 w3 ⟨rfl,hrd,hbl⟩;have HR:=hid (And.intro hrd (And.intro (show ∃st2,RdG B g n st2 w3 from ⟨_,hrd⟩) (HBW.out.trans hbl)));clear hrd hbl;go_wp2_with fail
        go_ret
        exact ⟨by rw [HF.out];rfl,fun _=>by rw [HF.out];exact HR.out.1,HR.out.2⟩
     ·have HF:=hid (HFW.out.trans (if_pos hwe))
      have HWE:=hid hwe;have hq:(we != 0)=true:=by simp [hwe]
      have hq2:(we==0)=false:=by simp [hwe]
      clear hwe HFW HKB;go_wp2_with fail
      refine (wrong_any we _).mono ?_;rintro e3 w3 ⟨rfl,rfl⟩;go_wp2_with fail
      go_ret
      exact ⟨by rw [HF.out];rfl,fun h0=>by rw [HF.out] at h0;exact absurd h0 HWE.out,⟨st,HS2.out.1⟩,HS2.out.2.2.2.1⟩
   ·exact absurd rfl h0
 ·have HF:=hid (HX.out.trans (if_pos hfe))
  have HFE:=hid hfe;have hq:(fe != 0)=true:=by simp [hfe]
  have hq2:(fe==0)=false:=by simp [hfe]
  go_enter Tryz.func45,Tryz.ntmps45;go_wp2_with fail
  refine HL.out.mono ?_;rintro e1 w1 ⟨(⟨h0,_⟩|⟨_,rfl⟩),hb⟩
  ·exact absurd h0 HFE.out
  clear hfe;go_wp2_with fail
  refine (wrong_any fe _).mono ?_;rintro e2 w2 ⟨rfl,rfl⟩;go_wp2_with fail
  go_ret
  exact ⟨by rw [HF.out];rfl,fun h0=>by rw [HF.out] at h0;exact absurd h0 HFE.out,⟨st,HS.out.below hb⟩,hb.mono HB.out⟩
end Go.Proofs.YtboagmbmmoomiaaGreatDoor
