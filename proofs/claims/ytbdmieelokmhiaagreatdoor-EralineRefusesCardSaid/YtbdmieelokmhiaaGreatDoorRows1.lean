/-
  Rows of strings in memory.
-/
import Derived.Test.YtbdmieelokmhiaaGreatDoorBackP
import Derived.Test.YtbdmieelokmhiaaGreatDoorBlk
import Derived.Laws.OwnMore
import Derived.Deep.AppendLies
import Derived.OwnWalk
set_option linter.unusedVariables false
namespace Go.Proofs.YtbdmieelokmhiaaGreatDoor
open Go.RowKit

def strV (ls : List (List UInt8)) : List Value := ls.map fun l => .string ⟨l.toArray⟩
theorem infoStr : (Tryz.prog.info? 9).map (fun i => (i.zero, i.size, i.bytes)) = some (some (.string ⟨#[]⟩), 1, 16) := by kernel_rfl
/-- a row of strings in memory -/
structure StrRow (w : World) (b o : Nat) (ls : List (List UInt8)) : Prop where
  lt : b < w.heap.size
  at_ : ∀ (j : Nat) l, ls[j]? = some l → w.cell? ⟨b, o + j, none⟩ = some (.string ⟨l.toArray⟩)
theorem StrRow.below {w w' : World} {b o : Nat} {ls : List (List UInt8)} (h : StrRow w b o ls) (hb : Below w.heap.size w w') : StrRow w' b o ls :=
  ⟨Nat.lt_of_lt_of_le h.lt hb.size, fun j l hl => (hb.cell (p := ⟨b, o + j, none⟩) h.lt).trans (h.at_ j l hl)⟩
theorem StrRow.tail {w : World} {b o : Nat} {a : List UInt8} {ls : List (List UInt8)} (h : StrRow w b o (a :: ls)) : StrRow w b (o + 1) ls :=
  ⟨h.lt, fun j l hl => by have := h.at_ (j + 1) l (by simpa using hl); rw [show o + 1 + j = o + (j + 1) by omega]; exact this⟩
theorem StrRow.own {w : World} {base g n cap : Nat} {ls : List (List UInt8)} (h : w.ownsRow base 9 1 (.slice (some ⟨g, 0, none⟩) n cap) n (strV ls)) (hg : g < w.heap.size) : StrRow w g 0 ls :=
  ⟨hg, fun j l hl => by
    have hj : j < ls.length := by
      rcases Nat.lt_or_ge j ls.length with h | h
      · exact h
      · rw [List.getElem?_eq_none h] at hl; cases hl
    have hn : ls.length = n := by have := h.1; simpa [strV] using this
    rw [Nat.zero_add, h.cellAt j (by omega), strV, List.getElem?_map, hl]; rfl⟩

/-- a slice of strings that came in -/
structure StrArg (w : World) (A : Option Addr) (ls : List (List UInt8)) : Prop where
  row : ls ≠ [] → ∃ b o, A = some ⟨b, o, none⟩ ∧ StrRow w b o ls
theorem StrArg.below {w w' : World} {A : Option Addr} {ls : List (List UInt8)} (h : StrArg w A ls) (hb : Below w.heap.size w w') : StrArg w' A ls :=
  ⟨fun h0 => by obtain ⟨b, o, hA, hr⟩ := h.row h0; exact ⟨b, o, hA, hr.below hb⟩⟩
theorem StrArg.reads {w : World} {A : Option Addr} {ls : List (List UInt8)} (h : StrArg w A ls) : Reads w w.heap.size 1 A ls.length (strV ls) := by
  refine ⟨by simp [strV], fun hn => ?_⟩
  obtain ⟨b, o, rfl, hr⟩ := h.row (by intro h; subst h; simp at hn)
  refine ⟨_, rfl, hr.lt, fun j u hu => ?_⟩
  rw [strV, List.getElem?_map] at hu
  cases hj : ls[j]? with
  | none => rw [hj] at hu; cases hu
  | some l =>
    rw [hj] at hu
    cases hu
    have := hr.at_ j l hj
    have e : (⟨b, o, none⟩ : Addr).add j = ⟨b, o + j, none⟩ := by unfold Addr.add; split <;> simp_all
    rw [e]; exact this
theorem strV_one (ls : List (List UInt8)) : ∀ u ∈ strV ls, u.oneCell' = true := by
  intro u hu
  obtain ⟨l, _, rfl⟩ := List.mem_map.1 hu
  rfl

/-- everything but block g is as it was -/
structure But (g : Nat) (w w' : World) : Prop where
  os : w'.os = w.os
  tape : w'.tape = w.tape
  output : w'.output = w.output
  size : w.heap.size ≤ w'.heap.size
  block : ∀ k, k < w.heap.size → k ≠ g → w'.heap[k]? = w.heap[k]?
theorem But.of {g : Nat} {w w' : World} (h : Below w.heap.size w w') : But g w w' := ⟨h.os, h.tape, h.output, h.size, fun k hk _ => h.block k hk⟩
theorem But.set {g : Nat} {w w' : World} (h : But g w w') (i : Nat) (v : Value) : But g w (w'.setCell ⟨g, i, none⟩ v) :=
  ⟨h.os, h.tape, h.output, by simpa using h.size, fun k hk hne => (Below.heap_setCell w' ⟨g, i, none⟩ v k hne).trans (h.block k hk hne)⟩
theorem But.below {g B : Nat} {a w w' : World} (h : But g w w') (hb : Below B a w) (hg : B ≤ g) (hB : B ≤ a.heap.size) : Below B a w' :=
  ⟨h.os.trans hb.os, h.tape.trans hb.tape, h.output.trans hb.output, Nat.le_trans hb.size h.size, fun k hk => (h.block k (by have := hb.size; omega) (by omega)).trans (hb.block k hk)⟩
theorem Blk.but {w w' : World} {g b : Nat} {t : TypeId} {cs : Array Value} (h : Blk w b t cs) (hb : But g w w') (hne : b ≠ g) : Blk w' b t cs := (hb.block b h.lt hne).trans h

theorem wordR_err (ws : List (List UInt8)) (f : Int) (l : List UInt8) : (wordR ws f l).2 = 0 ∨ (wordR ws f l).2 = 8 := by
  unfold wordR; split <;> simp
theorem str_ne {s : ByteArray} {l : List UInt8} (h : s.data.toList ≠ l) : (s.toList == l) = false := beq_eq_false_iff_ne.2 (by rw [Lib.toList_data]; exact h)
theorem str_of {s : ByteArray} {l : List UInt8} (h : s.data.toList = l) : s = ⟨l.toArray⟩ := by rw [← h]
end Go.Proofs.YtbdmieelokmhiaaGreatDoor
