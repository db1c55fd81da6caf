/-
  eraline.line: what it returns.
-/
import Derived.Test.YtciclddfhohieaaGreatDoorEraLine2
import Derived.Test.YtciclddfhohieaaGreatDoorRelAll
set_option linter.unusedVariables false
namespace Go.Proofs.YtciclddfhohieaaGreatDoor
open Go.RowKit

end Go.Proofs.YtciclddfhohieaaGreatDoor
