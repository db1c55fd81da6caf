/-
  SourceLines holds.
-/
import Derived.Test.YtboagmbmmoomiaaGreatDoorTreeMade
import Derived.Test.YtboagmbmmoomiaaGreatDoorTreeLines
import Derived.Test.YtboagmbmmoomiaaGreatDoorSrcWork
set_option linter.unusedVariables false
set_option linter.unusedSimpArgs false
set_option maxRecDepth 100000
set_option maxHeartbeats 4000000
namespace Go.Proofs.YtboagmbmmoomiaaGreatDoor
open Go.RowKit Go.Shelf
theorem tjoin_any {B:Nat} {out:List (List UInt8)} {vo:Value} {W:World} (ho:StrO B out vo W) (hn:out.length≤1000) (hl:(joinB [10] out).length≤1048576):Calls Tryz.prog 7 #[vo,.string ⟨#[10]⟩] W fun e w'=>e=.returned (.string ⟨(joinB [10] out).toArray⟩)∧Below W.heap.size W w':=by
 rcases ho.2 with ⟨rfl,h0⟩|⟨g,cap,cur,rfl,hB,hh,hnc,hcm,hcs,htk⟩
 ·have:out=[]:=List.eq_nil_of_length_eq_zero h0
  subst this;exact (Any.strings_Join_none Tryz.lays156 Tryz.Builder_Extra_156 none 0 ⟨#[10]⟩ W).mono fun e w' ⟨he,hw⟩=>⟨he,hw ▸ Below.refl _ _⟩
 ·have hrow:=rows_of_own (enc:=encS) (by decide) (fun x=>rfl) ho
  have em:((out.map fun l=>(⟨l.toArray⟩:ByteArray)).map (·.data.toList))=out:=by rw [List.map_map];simp [Function.comp_def]
  have h:=Any.strings_Join Tryz.lays156 Tryz.Builder_Extra_156 g 0 cap (out.map fun l=>⟨l.toArray⟩) ⟨#[10]⟩ W (fun j x hx=>by
   rw [List.getElem?_map] at hx
   cases hj:out[j]? with
   | none=>rw [hj] at hx;cases hx
   | some l =>
    rw [hj] at hx
    cases hx
    obtain ⟨b,o,c,e,hb,hc⟩:=hrow.at_ (by intro h0;rw [h0] at hj;simp at hj);simp only [Value.slice.injEq,Option.some.injEq,Addr.mk.injEq,and_true,true_and] at e;obtain ⟨⟨rfl,rfl⟩,-⟩:=e;have:=hc j l hj 0 _ rfl
    simpa using this) (show Blk W g _ cur from hh).lt (by simp;omega) (by simpa using hnc) (by rw [em];rw [joinB_eq] at hl;exact Nat.le_trans hl (by decide))
  rw [em,List.length_map,show (⟨#[10]⟩:ByteArray).data.toList=[10] from rfl,←joinB_eq] at h;exact h
theorem hp_rule {W:World} (hW:SW W) {x:RuleP} (h:ruleOk x=true):Calls Tryz.prog 16 #[.agg x.cells] W fun e w'=>e=.returned (.tuple #[.string ⟨(ruleT x).toArray⟩,.int .i64 0])∧Below W.heap.size W w':=by
 have hr:=(ruleOk_iff x).1 h;have e:rulePrintR x=(ruleT x,0):=if_pos h
 have h2:=rulePrint_any x W hW.tabs.rule (Nat.le_trans (setBk_len hr.name) (by decide)) (by
  rcases hr.lett with e|e
  ·rw [e];decide
  ·have:=(ofB_len e).2;omega)
 rw [e] at h2;exact h2
theorem hp_link {W:World} {x:LinkP} (h:linkOk x=true):Calls Tryz.prog 18 #[.agg x.cells] W fun e w'=>e=.returned (.tuple #[.string ⟨(linkT x).toArray⟩,.int .i64 0])∧Below W.heap.size W w':=by
 have e:linkPrintR x=(linkT x,0):=if_pos h;have h':=h;unfold linkOk at h';rw [Bool.and_eq_true] at h';have h2:=linkPrint_any x W (Nat.le_trans (zoneBk_len h'.1) (by decide)) (Nat.le_trans (zoneBk_len h'.2) (by decide));rw [e] at h2;exact h2
theorem hp_shift {W:World} {x:List UInt8} (h:setB x=true):Calls Tryz.prog 19 #[.string ⟨x.toArray⟩] W fun e w'=>e=.returned (.tuple #[.string ⟨(shiftT x).toArray⟩,.int .i64 0])∧Below W.heap.size W w':=by
 have e:shiftPrintR x=(shiftT x,0):=if_pos h;have h2:=shiftPrint_any x W (Nat.le_trans (setBk_len h) (by decide));rw [e] at h2;exact h2
theorem srcFs_few {s:SourceP} (h1:s.rules.length≤4) (h2:s.zones.length≤3) (h3:∀z ∈ s.zones,z.eras.length≤3) (h4:s.links.length≤3) (h5:s.shifts.length≤2):(srcFs s).length≤40:=by
 have:=zones_few h3 h2;simp only [srcFs,List.length_append,List.length_map]
 omega
end Go.Proofs.YtboagmbmmoomiaaGreatDoor
