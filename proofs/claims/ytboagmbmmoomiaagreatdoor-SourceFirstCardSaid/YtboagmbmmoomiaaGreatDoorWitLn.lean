/-
  The witness's world for the cards of sources: the handle and the table of kinds set, the other listed variables laid.
-/
import Derived.Test.YtboagmbmmoomiaaGreatDoorRuleArgs
set_option linter.unusedVariables false
set_option maxRecDepth 100000
set_option maxHeartbeats 4000000
namespace Go.Proofs.YtboagmbmmoomiaaGreatDoor
open Go.ChangeShapes Go.WideShapes Go.ChangeAt Go.RowKit
set_option maxRecDepth 100000
def laidD:List (String × DataW Unit):=Rows.sourceFirstRow.laid
def plainD:List (String × DataW Unit):=laidD.filter fun x=>x.2.handleName?.isNone
def handCells:Array Value:=#[.iface 199 (.agg #[.pointer (some ⟨18,74,none⟩)])]
def kindCells:Array Value:=#[.bool false,.bool false,.nilFunc,.bool false,.bool true,.func (.func 271) #[] #[],.bool true,.bool false,.func (.func 272) #[] #[],.bool true,.bool true,.func (.func 274) #[] #[],.bool true,.bool true,.func (.func 276) #[] #[]]
def witHandF:Obj→Obj
 | .cells _ t frozen=>.cells handCells t frozen
 | o=>o
def witKindF:Obj→Obj
 | .cells _ t frozen=>.cells kindCells t frozen
 | o=>o
noncomputable def baseD (os:Os):World :=
 { World.holding Tryz.prog os ⟨#[],#[],[]⟩ with heap:=((World.holding Tryz.prog os ⟨#[],#[],[]⟩).heap.modify 1 witHandF).modify 2 witKindF }
noncomputable def witD (os:Os):World:=(baseD os).layVars Tryz.prog plainD
theorem witD_os (os:Os):(witD os).os=os:=World.layVars_os _ _ _
theorem witD_plain (os:Os) (args:Array Value):laidMet Tryz.prog plainD ((witD os).forCall (fun _ _=>0) ⟨#[],args,[]⟩).memory:=by
 have e1:(plainD.filter fun x=>(plainD.map (·.1)).contains x.1)=plainD:=List.filter_eq_self.2 fun x hx=>List.contains_iff_mem.2 (List.mem_map.2 ⟨x,hx,rfl⟩)
 have e2:(plainD.filter fun x => !(plainD.map (·.1)).contains x.1)=[]:=List.filter_eq_nil_iff.2 fun x hx=>by rw [List.contains_iff_mem.2 (List.mem_map.2 ⟨x,hx,rfl⟩)];simp
 have hf:(baseD os).layFits Tryz.prog plainD []=true:=by kernel_rfl
 have hi:(baseD os).layIfaces Tryz.prog plainD (witD os)=true:=by kernel_rfl
 have h:laidMet Tryz.prog plainD (witD os):=laidMet_layVars (w0:=baseD os) (plainD.map (·.1)) [] (by rw [e1];rfl) (by rw [e1];exact hf) (by rw [e1];exact hi) (by rw [e2];exact LaidIn.none);exact h.of_heap (by simp [World.memory,World.forCall,Input.heap])
theorem witD_met (os:Os) (args:Array Value):laidMetH Tryz.prog laidD ((witD os).forCall (fun _ _=>0) ⟨#[],args,[]⟩).memory :=
 laidMetH_of_parts3 (fuel:=8) (witD_plain os args) (by kernel_rfl) (by kernel_rfl)
theorem witD_shaped (os:Os):(witD os).Shaped Tryz.prog:=World.shaped_of_ZipB (by kernel_rfl) (by kernel_rfl)
end Go.Proofs.YtboagmbmmoomiaaGreatDoor
