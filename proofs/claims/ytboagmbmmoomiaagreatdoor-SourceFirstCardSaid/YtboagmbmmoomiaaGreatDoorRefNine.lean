/-
  The references of layer 8: small, find, weeks, Week, short, WeekText return what the program's functions return.
  The references of layer 9: number, last, sign, digits, Check, Parse, Print return what the program's functions return.
  The references of layers 9 and 2: digits, Check, Parse, Print return what the program's functions return.
  The references of layer 9: Parse and Print; DayspecReads: the walk.
  The reference of layer 4, printing: Decimal, Two, Print return what the program's functions return.
  The reference of layer 4, reading: digit, pair, form, Parse return what the program's functions return.
  The references of layer 6: Check, base, Parse, Print return what the program's functions return.
-/
import Derived.Test.YtboagmbmmoomiaaGreatDoorDayAll
import Derived.Deep.QuietTactic
import Derived.BigQuiet
import Derived.Handy
import Derived.Deep.RegionHeld3
import Derived.Outline
import Derived.Test.YtboagmbmmoomiaaGreatDoorOffAll
set_option linter.unusedVariables false
set_option maxRecDepth 100000
set_option maxHeartbeats 4000000
namespace Go.Proofs.YtboagmbmmoomiaaGreatDoor
open Go.RowKit
end Go.Proofs.YtboagmbmmoomiaaGreatDoor
