/-
  The tables of analemmalaw41.works, row by row: what lies in memory, and that each row is what the plain functions say.
-/
import Derived.Test.YtaghbkmommdmgaaBigC
namespace Go.Proofs.Ytaghbkmommdmgaa
open Go.RowKit

def Blk (w : World) (g : Nat) (t : TypeId) (cs : Array Value) : Prop := w.heap[g]? = some (.cells cs t (0, 0))
section
variable {w w' : World} {g : Nat} {t : TypeId} {cs : Array Value}
theorem Blk.lt (h : Blk w g t cs) : g < w.heap.size := by
  rcases Nat.lt_or_ge g w.heap.size with hlt | hge
  · exact hlt
  · unfold Blk at h; rw [Array.getElem?_eq_none hge] at h; cases h
theorem Blk.cell (h : Blk w g t cs) (i : Nat) : w.cell? ⟨g, i, none⟩ = cs[i]? := cell_of_row w g i cs t (0, 0) h
theorem Blk.frozen (h : Blk w g t cs) (i : Nat) : w.frozen? ⟨g, i, none⟩ = false := by
  unfold Blk at h
  simp [World.frozen?, h]
theorem Blk.new (w : World) (t : TypeId) (cs : Array Value) : Blk (w.alloc (.cells cs t)) w.heap.size t cs := heap_alloc_new w _
theorem Blk.new' (w : World) (t : TypeId) (cs : Array Value) (h : g = w.heap.size) : Blk (w.alloc (.cells cs t)) g t cs := by subst h; exact Blk.new w t cs
theorem Blk.drew (h : Blk w g t cs) : Blk w.drew g t cs := h
theorem Blk.drewN (h : Blk w g t cs) (n : Nat) : Blk (w.drewN n) g t cs := h
theorem Blk.alloc (h : Blk w g t cs) (o : Obj) : Blk (w.alloc o) g t cs := (Below.heap_alloc w o g h.lt).trans h
theorem Blk.below {B : Nat} (h : Blk w g t cs) (hb : Below B w w') (hg : g < B) : Blk w' g t cs := (hb.block g hg).trans h
end
theorem rd_block {w : World} {g : Nat} {e : TypeId} {xs : List Int} (h : Blk w g e (bys xs).toArray) : Rd w (some ⟨g, 0, none⟩) xs.length xs := by
  refine ⟨by simp [bys], fun _ => ⟨_, rfl, h.lt, fun j u hu => ?_⟩⟩
  have e1 : (⟨g, 0, none⟩ : Addr).add j = ⟨g, j, none⟩ := by by_cases h0 : j = 0 <;> simp [Addr.add, h0]
  rw [e1, h.cell]
  simpa using hu
theorem rd_none (w : World) : Rd w none 0 [] := Reads.none_

/-- the first table lies in blocks B to B + 3 -/
structure Tab1 (w : World) (B : Nat) : Prop where
  b0 : Blk w B 5 (bys [9, 0, 0, 1, 2]).toArray
  b1 : Blk w (B + 1) 5 (bys [9, 255]).toArray
  b2 : Blk w (B + 1 + 1) 5 (bys [9, 255, 255, 255, 255, 255, 255, 255, 254]).toArray
  b3 : Blk w (B + 1 + 1 + 1) 42 #[.int .i64 4, .int .i64 258, .slice (some ⟨B, 0, none⟩) 5 5, .int .i64 0, .int .i64 1, .int .i64 (-1), .slice (some ⟨B + 1, 0, none⟩) 2 2, .int .i64 0, .int .i64 8, .int .i64 (-2), .slice (some ⟨B + 1 + 1, 0, none⟩) 9 9, .int .i64 0, .int .i64 1, .int .i64 128, .slice none 0 0, .int .i64 3, .int .i64 4, .int .i64 2147483648, .slice none 0 0, .int .i64 3, .int .i64 2, .int .i64 0, .slice none 0 0, .int .i64 2]
theorem Tab1.below {w w' : World} {B : Nat} (h : Tab1 w B) (hb : Below w.heap.size w w') : Tab1 w' B :=
  ⟨h.b0.below hb h.b0.lt, h.b1.below hb h.b1.lt, h.b2.below hb h.b2.lt, h.b3.below hb h.b3.lt⟩
theorem Tab1.row {w : World} {B : Nat} (h : Tab1 w B) (k : Nat) (hk : k < 6) :
    ∃ (s n : Int) (A : Option Addr) (l c : Nat) (e : Int) (xs : List Int), w.cell? ⟨B + 1 + 1 + 1, k * 4, none⟩ = some (.int .i64 s) ∧ w.cell? ⟨B + 1 + 1 + 1, k * 4 + 1, none⟩ = some (.int .i64 n) ∧
      w.cell? ⟨B + 1 + 1 + 1, k * 4 + 2, none⟩ = some (.slice A l c) ∧ w.cell? ⟨B + 1 + 1 + 1, k * 4 + 3, none⟩ = some (.int .i64 e) ∧ Rd w A l xs ∧ putR [9] s n = (xs, e) := by
  have : k = 0 ∨ k = 1 ∨ k = 2 ∨ k = 3 ∨ k = 4 ∨ k = 5 := by omega
  rcases this with rfl | rfl | rfl | rfl | rfl | rfl
  · exact ⟨_, _, _, _, _, _, _, h.b3.cell _, h.b3.cell _, h.b3.cell _, h.b3.cell _, rd_block h.b0, by decide +kernel⟩
  · exact ⟨_, _, _, _, _, _, _, h.b3.cell _, h.b3.cell _, h.b3.cell _, h.b3.cell _, rd_block h.b1, by decide +kernel⟩
  · exact ⟨_, _, _, _, _, _, _, h.b3.cell _, h.b3.cell _, h.b3.cell _, h.b3.cell _, rd_block h.b2, by decide +kernel⟩
  · exact ⟨_, _, _, _, _, _, _, h.b3.cell _, h.b3.cell _, h.b3.cell _, h.b3.cell _, rd_none _, by decide +kernel⟩
  · exact ⟨_, _, _, _, _, _, _, h.b3.cell _, h.b3.cell _, h.b3.cell _, h.b3.cell _, rd_none _, by decide +kernel⟩
  · exact ⟨_, _, _, _, _, _, _, h.b3.cell _, h.b3.cell _, h.b3.cell _, h.b3.cell _, rd_none _, by decide +kernel⟩

/-- the second table lies in block B -/
def Tab2 (w : World) (B : Nat) : Prop := Blk w B 44 #[.int .i64 1, .int .i64 4, .int .i64 258, .int .i64 0, .int .i64 1, .int .i64 1, .int .i64 0, .int .i64 0, .int .i64 2, .int .i64 4, .int .i64 0, .int .i64 19, .int .i64 (-1), .int .i64 1, .int .i64 0, .int .i64 19]
theorem Tab2.row {w : World} {B : Nat} (h : Tab2 w B) (k : Nat) (hk : k < 4) :
    ∃ (a s n e : Int), w.cell? ⟨B, k * 4, none⟩ = some (.int .i64 a) ∧ w.cell? ⟨B, k * 4 + 1, none⟩ = some (.int .i64 s) ∧
      w.cell? ⟨B, k * 4 + 2, none⟩ = some (.int .i64 n) ∧ w.cell? ⟨B, k * 4 + 3, none⟩ = some (.int .i64 e) ∧ getR [9, 0, 0, 1, 2] a s = (n, e) := by
  have : k = 0 ∨ k = 1 ∨ k = 2 ∨ k = 3 := by omega
  rcases this with rfl | rfl | rfl | rfl
  all_goals exact ⟨_, _, _, _, Blk.cell h _, Blk.cell h _, Blk.cell h _, Blk.cell h _, by decide +kernel⟩

/-- the third table lies in blocks B and B + 1 -/
structure Tab3 (w : World) (B : Nat) : Prop where
  b0 : Blk w B 5 (bys [2, 3]).toArray
  b1 : Blk w (B + 1) 46 #[.int .i64 1, .int .i64 2, .slice (some ⟨B, 0, none⟩) 2 2, .int .i64 0, .int .i64 3, .int .i64 0, .slice none 0 0, .int .i64 0, .int .i64 2, .int .i64 2, .slice none 0 0, .int .i64 19, .int .i64 4, .int .i64 0, .slice none 0 0, .int .i64 19, .int .i64 0, .int .i64 (-1), .slice none 0 0, .int .i64 2]
theorem Tab3.below {w w' : World} {B : Nat} (h : Tab3 w B) (hb : Below w.heap.size w w') : Tab3 w' B :=
  ⟨h.b0.below hb h.b0.lt, h.b1.below hb h.b1.lt⟩
theorem Tab3.row {w : World} {B : Nat} (h : Tab3 w B) (k : Nat) (hk : k < 5) :
    ∃ (a n : Int) (A : Option Addr) (l c : Nat) (e : Int) (xs : List Int), w.cell? ⟨B + 1, k * 4, none⟩ = some (.int .i64 a) ∧ w.cell? ⟨B + 1, k * 4 + 1, none⟩ = some (.int .i64 n) ∧
      w.cell? ⟨B + 1, k * 4 + 2, none⟩ = some (.slice A l c) ∧ w.cell? ⟨B + 1, k * 4 + 3, none⟩ = some (.int .i64 e) ∧ Rd w A l xs ∧ bytesR [1, 2, 3] a n = (xs, e) := by
  have : k = 0 ∨ k = 1 ∨ k = 2 ∨ k = 3 ∨ k = 4 := by omega
  rcases this with rfl | rfl | rfl | rfl | rfl
  · exact ⟨_, _, _, _, _, _, _, h.b1.cell _, h.b1.cell _, h.b1.cell _, h.b1.cell _, rd_block h.b0, by decide +kernel⟩
  all_goals exact ⟨_, _, _, _, _, _, _, h.b1.cell _, h.b1.cell _, h.b1.cell _, h.b1.cell _, rd_none _, by decide +kernel⟩
end Go.Proofs.Ytaghbkmommdmgaa
