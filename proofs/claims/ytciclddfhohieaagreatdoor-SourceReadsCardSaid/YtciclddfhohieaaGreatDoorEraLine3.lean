/-
  eraline.line: what it returns.
-/
import Derived.Test.YtciclddfhohieaaGreatDoorEraLine2
import Derived.Test.YtciclddfhohieaaGreatDoorRelAll
set_option linter.unusedVariables false
set_option maxRecDepth 100000
set_option maxHeartbeats 4000000
namespace Go.Proofs.YtciclddfhohieaaGreatDoor
open Go.RowKit
end Go.Proofs.YtciclddfhohieaaGreatDoor
