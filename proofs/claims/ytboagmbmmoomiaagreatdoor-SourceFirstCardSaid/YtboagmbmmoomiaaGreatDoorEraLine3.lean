/-
  eraline.line: what it returns.
-/
import Derived.Test.YtboagmbmmoomiaaGreatDoorEraLine2
import Derived.Test.YtboagmbmmoomiaaGreatDoorRelAll
set_option linter.unusedVariables false
set_option maxRecDepth 100000
set_option maxHeartbeats 4000000
namespace Go.Proofs.YtboagmbmmoomiaaGreatDoor
open Go.RowKit
end Go.Proofs.YtboagmbmmoomiaaGreatDoor
