/-
  Small words that the walks share: strings joined; a contract that keeps cells.
-/
import Derived.Test.YtbdmieelokmhiaaGreatDoorWords
import Derived.Test.YtbdmieelokmhiaaGreatDoorBlk
import Derived.Lib.Bytealg
set_option linter.unusedVariables false
namespace Go.Proofs.YtbdmieelokmhiaaGreatDoor
open Go.RowKit

theorem ba_append (a b : Array UInt8) : (⟨a⟩ ++ ⟨b⟩ : ByteArray) = ⟨a ++ b⟩ := by apply ByteArray.ext; simp
theorem str_ext {a b : List UInt8} (h : a = b) : Value.string ⟨a.toArray⟩ = .string ⟨b.toArray⟩ := by rw [h]
theorem ba_list (s : ByteArray) : (⟨s.data.toList.toArray⟩ : ByteArray) = s := by apply ByteArray.ext; simp

theorem held1 {P : Program} {f : FuncId} {args : Array Value} {w : World} {E : Ending} (h : Calls P f args w fun e w' => e = E ∧ Below w.heap.size w w') {p0 : Addr} {v0 : Value} (c0 : w.cell? p0 = some v0) :
    Calls P f args w fun e w' => e = E ∧ Below w.heap.size w w' ∧ w'.cell? p0 = some v0 :=
  h.mono fun e w' ⟨h1, h2⟩ => ⟨h1, h2, (h2.cell (block_lt_of_cell c0)).trans c0⟩
theorem held2 {P : Program} {f : FuncId} {args : Array Value} {w : World} {E : Ending} (h : Calls P f args w fun e w' => e = E ∧ Below w.heap.size w w') {p0 p1 : Addr} {v0 v1 : Value}
    (c0 : w.cell? p0 = some v0) (c1 : w.cell? p1 = some v1) :
    Calls P f args w fun e w' => e = E ∧ Below w.heap.size w w' ∧ w'.cell? p0 = some v0 ∧ w'.cell? p1 = some v1 :=
  h.mono fun e w' ⟨h1, h2⟩ => ⟨h1, h2, (h2.cell (block_lt_of_cell c0)).trans c0, (h2.cell (block_lt_of_cell c1)).trans c1⟩
theorem held3 {P : Program} {f : FuncId} {args : Array Value} {w : World} {E : Ending} (h : Calls P f args w fun e w' => e = E ∧ Below w.heap.size w w') {p0 p1 p2 : Addr} {v0 v1 v2 : Value}
    (c0 : w.cell? p0 = some v0) (c1 : w.cell? p1 = some v1) (c2 : w.cell? p2 = some v2) :
    Calls P f args w fun e w' => e = E ∧ Below w.heap.size w w' ∧ w'.cell? p0 = some v0 ∧ w'.cell? p1 = some v1 ∧ w'.cell? p2 = some v2 :=
  h.mono fun e w' ⟨h1, h2⟩ => ⟨h1, h2, (h2.cell (block_lt_of_cell c0)).trans c0, (h2.cell (block_lt_of_cell c1)).trans c1, (h2.cell (block_lt_of_cell c2)).trans c2⟩
theorem Blk.three {w : World} {g : Nat} {t : TypeId} {a b c : Value} (h : Blk w g t #[a, b, c]) :
    w.cell? ⟨g, 0, none⟩ = some a ∧ w.cell? ⟨g, 1, none⟩ = some b ∧ w.cell? ⟨g, 2, none⟩ = some c ∧ w.frozen? ⟨g, 0, none⟩ = false ∧ w.frozen? ⟨g, 1, none⟩ = false ∧ w.frozen? ⟨g, 2, none⟩ = false :=
  ⟨h.cell_ rfl, h.cell_ rfl, h.cell_ rfl, h.frozen 0, h.frozen 1, h.frozen 2⟩
theorem list_upto (s : ByteArray) (i : Nat) : (s.extract 0 i).data.toList = s.data.toList.take i := by simp
theorem list_from (s : ByteArray) (i : Nat) : (s.extract i s.size).data.toList = s.data.toList.drop i := by
  rw [Lib.extract_data]; apply List.take_of_length_le; simp
theorem size_part (s : ByteArray) (i j n : Nat) (h : s.size ≤ n) : (s.extract i j).size ≤ n := by rw [ByteArray.size_extract]; omega
theorem below_drawn {B : Nat} {a w : World} (h : Below B a w) (n : Nat) : Below B a (w.drewN n) := ⟨h.os, h.tape, h.output, h.size, h.block⟩
end Go.Proofs.YtbdmieelokmhiaaGreatDoor
