/-
  No cell of these rows narrows 'for every input' (looked for: loops, veiled, ifaces, maps, wideKeys, modest, calm, conditions, laid).
  DERIVED. THE GIVEN ROWS OF THIS SEAT. 5 by the template 'for every input the law returns true; each argument reads behind the call as it read before'; 0 by the template 'total and deterministic' (their statements: YtaghbkmommdmgaaTotals.lean).
  GIVEN WITH THE SEED: the statements are not yours to turn. If you find one false, say at which input.
  Laid BY PROGRAM, IN A SANDBOX (cutbox-rows.mjs): the forced cells as the released guide's own fill.sh prints them over the translation 06620c0011923b9f… (all of the seat's roots in one cut). By AI agents, Wed Nov 11 2026. No macro, syntax, notation, axiom, sorry.
-/
import Derived.Test.YtaghbkmommdmgaaChecked
import GoSem.Claim
import GoSem.ClaimJoined
import GoSem.ClaimMapViews
import Derived.JoinedTies
import Derived.KernelRfl
namespace Go.Proofs.Ytaghbkmommdmgaa
/- THE CELL 'sum', in the pinned program and in every row, IS THE sha256 OF THE DUMP (.gsa) THAT YtaghbkmommdmgaaProg.lean LOADS. Nothing in Lean hashes anything: it is a label: what it is worth is what the hold of that sum in a sandbox is worth. -/
noncomputable def Try.pinned : Pinned := { name := "ytaghbkmommdmgaa", sum := "06620c0011923b9fbee46f7ffc87c7e366c08e023c0ac2d2212b7ff5f386774e", checked := Try.checked }
namespace Rows
def none {H : Type} : Left H := { results := [], args := [] }

/-- 'analemmalaw41.BigendNumbers': WHATEVER THE INPUT: true; the input reads as it did. -/
def bigendNumbersSpec : ChangeSpec := { name := "bigendNumbers", fn := fun _ => fun
  | [d1, d2, d3, d4] => { results := [.lit (.bool true)], args := [d1, d2, d3, d4] }
  | _ => none }
def bigendNumbersRow : OpenClaim := { program := "ytaghbkmommdmgaa", sum := "06620c0011923b9fbee46f7ffc87c7e366c08e023c0ac2d2212b7ff5f386774e", func := "analemma/analemmalaw41.BigendNumbers", spec := "bigendNumbers", apart := false }
def BigendNumbersSaid : Prop := bigendNumbersRow.holds Try.pinned (OpenSpec.ofChange bigendNumbersSpec)

/-- ITS FALSE NEIGHBOUR: 'it returns false'. Refute it at one input. -/
def bigendNumbersWrong : ChangeSpec := { name := "bigendNumbers", fn := fun _ => fun
  | [d1, d2, d3, d4] => { results := [.lit (.bool false)], args := [d1, d2, d3, d4] }
  | _ => none }
def BigendNumbersWrongFalsely : Prop := bigendNumbersRow.holds Try.pinned (OpenSpec.ofChange bigendNumbersWrong)

/-- 'analemmalaw41.BigendBack': WHATEVER THE INPUT: true; the input reads as it did. -/
def bigendBackSpec : ChangeSpec := { name := "bigendBack", fn := fun _ => fun
  | [d1, d2, d3] => { results := [.lit (.bool true)], args := [d1, d2, d3] }
  | _ => none }
def bigendBackRow : OpenClaim := { program := "ytaghbkmommdmgaa", sum := "06620c0011923b9fbee46f7ffc87c7e366c08e023c0ac2d2212b7ff5f386774e", func := "analemma/analemmalaw41.BigendBack", spec := "bigendBack", apart := false }
def BigendBackSaid : Prop := bigendBackRow.holds Try.pinned (OpenSpec.ofChange bigendBackSpec)

/-- ITS FALSE NEIGHBOUR: 'it returns false'. Refute it at one input. -/
def bigendBackWrong : ChangeSpec := { name := "bigendBack", fn := fun _ => fun
  | [d1, d2, d3] => { results := [.lit (.bool false)], args := [d1, d2, d3] }
  | _ => none }
def BigendBackWrongFalsely : Prop := bigendBackRow.holds Try.pinned (OpenSpec.ofChange bigendBackWrong)

/-- 'analemmalaw41.BigendParts': WHATEVER THE INPUT: true; the input reads as it did. -/
def bigendPartsSpec : ChangeSpec := { name := "bigendParts", fn := fun _ => fun
  | [d] => { results := [.lit (.bool true)], args := [d] }
  | _ => none }
def bigendPartsRow : OpenClaim := { program := "ytaghbkmommdmgaa", sum := "06620c0011923b9fbee46f7ffc87c7e366c08e023c0ac2d2212b7ff5f386774e", func := "analemma/analemmalaw41.BigendParts", spec := "bigendParts", apart := false }
def BigendPartsSaid : Prop := bigendPartsRow.holds Try.pinned (OpenSpec.ofChange bigendPartsSpec)

/-- ITS FALSE NEIGHBOUR: 'it returns false'. Refute it at one input. -/
def bigendPartsWrong : ChangeSpec := { name := "bigendParts", fn := fun _ => fun
  | [d] => { results := [.lit (.bool false)], args := [d] }
  | _ => none }
def BigendPartsWrongFalsely : Prop := bigendPartsRow.holds Try.pinned (OpenSpec.ofChange bigendPartsWrong)

/-- 'analemmalaw41.BigendRefuses': WHATEVER THE INPUT: true; the input reads as it did. -/
def bigendRefusesSpec : ChangeSpec := { name := "bigendRefuses", fn := fun _ => fun
  | [d1, d2, d3] => { results := [.lit (.bool true)], args := [d1, d2, d3] }
  | _ => none }
def bigendRefusesRow : OpenClaim := { program := "ytaghbkmommdmgaa", sum := "06620c0011923b9fbee46f7ffc87c7e366c08e023c0ac2d2212b7ff5f386774e", func := "analemma/analemmalaw41.BigendRefuses", spec := "bigendRefuses", apart := false }
def BigendRefusesSaid : Prop := bigendRefusesRow.holds Try.pinned (OpenSpec.ofChange bigendRefusesSpec)

/-- ITS FALSE NEIGHBOUR: 'it returns false'. Refute it at one input. -/
def bigendRefusesWrong : ChangeSpec := { name := "bigendRefuses", fn := fun _ => fun
  | [d1, d2, d3] => { results := [.lit (.bool false)], args := [d1, d2, d3] }
  | _ => none }
def BigendRefusesWrongFalsely : Prop := bigendRefusesRow.holds Try.pinned (OpenSpec.ofChange bigendRefusesWrong)

/-- 'analemmalaw41.BigendOrder': WHATEVER THE INPUT: true; the input reads as it did. -/
def bigendOrderSpec : ChangeSpec := { name := "bigendOrder", fn := fun _ => fun
  | [d1, d2] => { results := [.lit (.bool true)], args := [d1, d2] }
  | _ => none }
def bigendOrderRow : OpenClaim := { program := "ytaghbkmommdmgaa", sum := "06620c0011923b9fbee46f7ffc87c7e366c08e023c0ac2d2212b7ff5f386774e", func := "analemma/analemmalaw41.BigendOrder", spec := "bigendOrder", inPlace := ["internal/bytealg.Compare"], apart := false }
def BigendOrderSaid : Prop := bigendOrderRow.holds Try.pinned (OpenSpec.ofChange bigendOrderSpec)

/-- ITS FALSE NEIGHBOUR: 'it returns false'. Refute it at one input. -/
def bigendOrderWrong : ChangeSpec := { name := "bigendOrder", fn := fun _ => fun
  | [d1, d2] => { results := [.lit (.bool false)], args := [d1, d2] }
  | _ => none }
def BigendOrderWrongFalsely : Prop := bigendOrderRow.holds Try.pinned (OpenSpec.ofChange bigendOrderWrong)

/- THE SECOND FORM. 'bulk': how many values and letters a reading holds, each counted each time it is reached (what is shared counts as often as it is met; a slice's spare places count too). A statement '..UptoSaid' is the law's where the arguments, and the package variables that the reading takes, are together of bulk at most 1048576: NARROWER than '..Said'. Prove '..Said' where nothing that the law and all that it calls make is longer than what came in: it says more and counts as full. Else prove '..UptoSaid'. A law counts once. -/
mutual
def uptoBulk {H : Type} : DataW H → Nat
  | .lit (.string bytes) => bytes.length + 1
  | .lit _ => 1
  | .nil => 1
  | .ptr d => uptoBulk d + 1
  | .slice elems spare => uptoBulkAll elems + uptoBulkAll spare + 1
  | .agg parts => uptoBulkAll parts + 1
  | .iface _ d => uptoBulk d + 1
  | .map entries => uptoBulkEntries entries + 1
  | .held _ => 1
def uptoBulkAll {H : Type} : List (DataW H) → Nat
  | [] => 0
  | d :: r => uptoBulk d + uptoBulkAll r
def uptoBulkEntries {H : Type} : List (Lit × DataW H) → Nat
  | [] => 0
  | x :: r => uptoBulkEntry x + uptoBulkEntries r
def uptoBulkEntry {H : Type} : Lit × DataW H → Nat
  | (.string bytes, d) => bytes.length + uptoBulk d + 1
  | (_, d) => uptoBulk d + 1
 end
def uptoSmall : (H : Type) → List (DataW H) → Bool := fun _ ds => decide (uptoBulkAll ds ≤ 1048576)
def OpenSpec.upto (s : _root_.Go.ChangeSpec) : _root_.Go.OpenSpec := { _root_.Go.OpenSpec.ofChange s with cond := some uptoSmall }

/-- 'analemmalaw41.BigendNumbers', WHERE WHAT IT READS IS OF BULK AT MOST 1048576: true; the input reads as it did. -/
def bigendNumbersUptoRow : OpenClaim := { program := "ytaghbkmommdmgaa", sum := "06620c0011923b9fbee46f7ffc87c7e366c08e023c0ac2d2212b7ff5f386774e", func := "analemma/analemmalaw41.BigendNumbers", spec := "bigendNumbers", apart := false, narrowed := true }
def BigendNumbersUptoSaid : Prop := bigendNumbersUptoRow.holds Try.pinned (OpenSpec.upto bigendNumbersSpec)

/-- 'analemmalaw41.BigendBack', WHERE WHAT IT READS IS OF BULK AT MOST 1048576: true; the input reads as it did. -/
def bigendBackUptoRow : OpenClaim := { program := "ytaghbkmommdmgaa", sum := "06620c0011923b9fbee46f7ffc87c7e366c08e023c0ac2d2212b7ff5f386774e", func := "analemma/analemmalaw41.BigendBack", spec := "bigendBack", apart := false, narrowed := true }
def BigendBackUptoSaid : Prop := bigendBackUptoRow.holds Try.pinned (OpenSpec.upto bigendBackSpec)

/-- 'analemmalaw41.BigendParts', WHERE WHAT IT READS IS OF BULK AT MOST 1048576: true; the input reads as it did. -/
def bigendPartsUptoRow : OpenClaim := { program := "ytaghbkmommdmgaa", sum := "06620c0011923b9fbee46f7ffc87c7e366c08e023c0ac2d2212b7ff5f386774e", func := "analemma/analemmalaw41.BigendParts", spec := "bigendParts", apart := false, narrowed := true }
def BigendPartsUptoSaid : Prop := bigendPartsUptoRow.holds Try.pinned (OpenSpec.upto bigendPartsSpec)

/-- 'analemmalaw41.BigendRefuses', WHERE WHAT IT READS IS OF BULK AT MOST 1048576: true; the input reads as it did. -/
def bigendRefusesUptoRow : OpenClaim := { program := "ytaghbkmommdmgaa", sum := "06620c0011923b9fbee46f7ffc87c7e366c08e023c0ac2d2212b7ff5f386774e", func := "analemma/analemmalaw41.BigendRefuses", spec := "bigendRefuses", apart := false, narrowed := true }
def BigendRefusesUptoSaid : Prop := bigendRefusesUptoRow.holds Try.pinned (OpenSpec.upto bigendRefusesSpec)

/-- 'analemmalaw41.BigendOrder', WHERE WHAT IT READS IS OF BULK AT MOST 1048576: true; the input reads as it did. -/
def bigendOrderUptoRow : OpenClaim := { program := "ytaghbkmommdmgaa", sum := "06620c0011923b9fbee46f7ffc87c7e366c08e023c0ac2d2212b7ff5f386774e", func := "analemma/analemmalaw41.BigendOrder", spec := "bigendOrder", inPlace := ["internal/bytealg.Compare"], apart := false, narrowed := true }
def BigendOrderUptoSaid : Prop := bigendOrderUptoRow.holds Try.pinned (OpenSpec.upto bigendOrderSpec)

end Rows
end Go.Proofs.Ytaghbkmommdmgaa
