/-
  A source whose parts can be printed.
-/
import Derived.Test.YtboagmbmmoomiaaGreatDoorPCopies
set_option maxRecDepth 100000
set_option maxHeartbeats 4000000
namespace Go.Proofs.YtboagmbmmoomiaaGreatDoor
open Go.RowKit
structure SrcRight (s:SourceP):Prop where
 rules:∀x ∈ s.rules,ruleOk x=true
 zones:∀z ∈ s.zones,zoneOk z=true
 links:∀x ∈ s.links,linkOk x=true
 shifts:∀x ∈ s.shifts,setB x=true
end Go.Proofs.YtboagmbmmoomiaaGreatDoor
