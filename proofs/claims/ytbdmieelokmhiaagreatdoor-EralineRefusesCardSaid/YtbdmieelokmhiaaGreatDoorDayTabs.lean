/-
  The package-level tables as cells of memory; plain day forms.
-/
import Derived.Test.YtbdmieelokmhiaaGreatDoorWords
import Derived.Test.YtbdmieelokmhiaaGreatDoorProg
namespace Go.Proofs.YtbdmieelokmhiaaGreatDoor
open Go.RowKit

def weekL : List (List UInt8) := [[115, 117, 110, 100, 97, 121], [109, 111, 110, 100, 97, 121], [116, 117, 101, 115, 100, 97, 121], [119, 101, 100, 110, 101, 115, 100, 97, 121], [116, 104, 117, 114, 115, 100, 97, 121], [102, 114, 105, 100, 97, 121], [115, 97, 116, 117, 114, 100, 97, 121]]

/-- the table of kinds: which kinds have a weekday, which have a day -/
structure Kinds (w : World) : Prop where
  w1 : w.cell? ⟨2, 3, none⟩ = some (.bool false)
  d1 : w.cell? ⟨2, 4, none⟩ = some (.bool true)
  w2 : w.cell? ⟨2, 6, none⟩ = some (.bool true)
  d2 : w.cell? ⟨2, 7, none⟩ = some (.bool false)
  w3 : w.cell? ⟨2, 9, none⟩ = some (.bool true)
  d3 : w.cell? ⟨2, 10, none⟩ = some (.bool true)
  w4 : w.cell? ⟨2, 12, none⟩ = some (.bool true)
  d4 : w.cell? ⟨2, 13, none⟩ = some (.bool true)
  f1 : w.cell? ⟨2, 5, none⟩ = some (.func (.func 230) #[] #[])
  f2 : w.cell? ⟨2, 8, none⟩ = some (.func (.func 231) #[] #[])
  f3 : w.cell? ⟨2, 11, none⟩ = some (.func (.func 233) #[] #[])
  f4 : w.cell? ⟨2, 14, none⟩ = some (.func (.func 235) #[] #[])
theorem Kinds.below {w w' : World} (h : Kinds w) (hb : Below w.heap.size w w') : Kinds w' := by
  have k : ∀ {i : Nat} {v : Value}, w.cell? ⟨2, i, none⟩ = some v → w'.cell? ⟨2, i, none⟩ = some v := fun hc => (hb.cell (block_lt_of_cell hc)).trans hc
  exact ⟨k h.w1, k h.d1, k h.w2, k h.d2, k h.w3, k h.d3, k h.w4, k h.d4, k h.f1, k h.f2, k h.f3, k h.f4⟩

/-- the table of weekdays -/
def Weeks (w : World) : Prop := ∀ i l, weekL[i]? = some l → w.cell? ⟨7, i, none⟩ = some (.string ⟨l.toArray⟩)
theorem Weeks.below {w w' : World} (h : Weeks w) (hb : Below w.heap.size w w') : Weeks w' := fun i l hl => (hb.cell (block_lt_of_cell (h i l hl))).trans (h i l hl)

def rightDay (k wk d : Int) : Bool :=
  (k == 1 && wk == 0 && decide (1 ≤ d ∧ d ≤ 31)) || (k == 2 && decide (0 ≤ wk ∧ wk ≤ 6) && d == 0) || ((k == 3 || k == 4) && decide (0 ≤ wk ∧ wk ≤ 6) && decide (1 ≤ d ∧ d ≤ 31))
def checkR (k wk d : Int) : Int := if rightDay k wk d = true then 0 else 2
end Go.Proofs.YtbdmieelokmhiaaGreatDoor
