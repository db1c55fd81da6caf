/-
  A source whose parts can be printed.
-/
import Derived.Test.YtciclddfhohieaaGreatDoorPCopies
namespace Go.Proofs.YtciclddfhohieaaGreatDoor
open Go.RowKit

end Go.Proofs.YtciclddfhohieaaGreatDoor
