/-
  SourceOpen's texts, by the plain law.
-/
import Derived.Test.YtciclddfhohieaaGreatDoorSrcBack
set_option linter.unusedVariables false
namespace Go.Proofs.YtciclddfhohieaaGreatDoor
open Go.RowKit

def opZ : List UInt8 := [90, 111, 110, 101, 32, 90, 32, 48, 58, 48, 48, 32, 45, 32, 71, 77, 84, 32, 49, 57, 57, 48]
def opP : List UInt8 := [35, 32, 120]
def opE : List UInt8 := [9, 49, 58, 48, 48, 32, 45, 32, 67, 69, 84, 32, 49, 57, 57, 49, 32, 70, 101, 98, 32, 51, 32, 49, 58, 48, 48, 117]
def opT : List UInt8 := [48, 58, 48, 48, 32, 45, 32, 71, 77, 84]
def opY : List UInt8 := [76, 105, 110, 107, 32, 90, 32, 89]
/-- the text after k more eras, with g lines without fields ahead of each -/
def opX (g k : Nat) : List UInt8 := linesT (openL opZ opP opE g k)
theorem opX_zero (g : Nat) : opX g 0 = opZ ++ [10] := by simp [opX, openL, linesT]
theorem opX_succ (g k : Nat) : opX g (k + 1) = opX g k ++ (linesT (List.replicate g opP) ++ (opE ++ [10])) := by
  have e1 : openL opZ opP opE g (k + 1) = openL opZ opP opE g k ++ (List.replicate g opP ++ [opE]) := by
    unfold openL
    rw [List.replicate_succ', List.flatten_append]
    simp
  unfold opX
  rw [e1, linesT_append, linesT_append]
  simp [linesT]
theorem opX_end (g k : Nat) : opX g k ++ linesT (List.replicate g []) = linesT (openL opZ opP opE g k ++ List.replicate g []) := by
  unfold opX
  rw [linesT_append]
theorem opX_more (g k : Nat) : opX g k ++ linesT (List.replicate g []) ++ (opT ++ [10] ++ opY) = linesT (openL opZ opP opE g k ++ List.replicate g [] ++ [opT]) ++ opY := by
  rw [opX_end, linesT_append (openL opZ opP opE g k ++ List.replicate g []) [opT]]
  simp [linesT]
theorem opX_len (g k : Nat) (hg : g ≤ 4) (hk : k ≤ 59) : (opX g k).length ≤ 10000 := by
  induction k with
  | zero => rw [opX_zero]; simp [opZ]
  | succ k ih =>
    have h : ∀ k, k ≤ 59 → (opX g k).length = 23 + k * (g * 4 + 29) := by
      intro k
      induction k with
      | zero => intro _; rw [opX_zero]; simp [opZ]
      | succ k ih =>
        intro hk
        rw [opX_succ]
        simp only [List.length_append, linesT_rep, ih (by omega)]
        simp only [opP, opE, List.length_cons, List.length_nil, Nat.succ_mul]
        omega
    rw [h _ hk]
    have : (k + 1) * (g * 4 + 29) ≤ 59 * 45 := Nat.mul_le_mul hk (by omega)
    omega
/-- what the law asks -/
structure OpenAt (g m : Nat) : Prop where
  first : srcR (opX g m ++ linesT (List.replicate g [])) = ((SourceP.none, LinesP.none), 1 + ((m * (g + 1) : Nat) : Int), 5)
  many : m + 1 = 60 → srcR (opX g m ++ linesT (List.replicate g []) ++ (opT ++ [10] ++ opY)) = ((SourceP.none, LinesP.none), 1 + (((m + 1) * (g + 1) : Nat) : Int), 7)
  good : m + 1 < 60 → ∃ src ln, srcR (opX g m ++ linesT (List.replicate g []) ++ (opT ++ [10] ++ opY)) = ((src, ln), 0, 0) ∧ (∃ nm es, src.zones = [⟨nm, es⟩] ∧ es.length = m + 2) ∧ src.links.length = 1 ∧ ∃ l, ln.eras = [l] ∧ l[m + 1]? = some (1 + (((m + 1) * (g + 1) : Nat) : Int)) ∧ l.length = m + 2
theorem open_at (g m : Nat) (hg : g ≤ 4) (hm : m + 1 ≤ 60) : OpenAt g m := by
  have ha2 : (eraR [[48, 58, 48, 48], [45], [71, 77, 84], [49, 57, 57, 48]]).2 = 0 ∧ (eraR [[48, 58, 48, 48], [45], [71, 77, 84], [49, 57, 57, 48]]).1.til.is = true := by decide +kernel
  have he2 : (eraR [[49, 58, 48, 48], [45], [67, 69, 84], [49, 57, 57, 49], [70, 101, 98], [51], [49, 58, 48, 48, 117]]).2 = 0 ∧ (eraR [[49, 58, 48, 48], [45], [67, 69, 84], [49, 57, 57, 49], [70, 101, 98], [51], [49, 58, 48, 48, 117]]).1.til.is = true := by decide +kernel
  have ht2 : (eraR [[48, 58, 48, 48], [45], [71, 77, 84]]).2 = 0 ∧ (eraR [[48, 58, 48, 48], [45], [71, 77, 84]]).1.til.is = false := by decide +kernel
  have hz : LineIs opZ ([90, 111, 110, 101] :: [90] :: [[48, 58, 48, 48], [45], [71, 77, 84], [49, 57, 57, 48]]) := ⟨by decide +kernel, by decide +kernel, by decide +kernel⟩
  have hp : LineIs opP [] := ⟨by decide +kernel, by decide +kernel, by decide +kernel⟩
  have he : LineIs opE [[49, 58, 48, 48], [45], [67, 69, 84], [49, 57, 57, 49], [70, 101, 98], [51], [49, 58, 48, 48, 117]] := ⟨by decide +kernel, by decide +kernel, by decide +kernel⟩
  have ht : LineIs opT [[48, 58, 48, 48], [45], [71, 77, 84]] := ⟨by decide +kernel, by decide +kernel, by decide +kernel⟩
  have hy : LineIs opY [[76, 105, 110, 107], [90], [89]] := ⟨by decide +kernel, by decide +kernel, by decide +kernel⟩
  have h0 : LineIs [] [] := ⟨by decide +kernel, by decide +kernel, by decide +kernel⟩
  have h := open_law (x := ⟨[90], [89]⟩) hz hp he ht hy (by decide) h0 (by decide +kernel) (by rw [← ha2.1]) ha2.2 (by rw [← he2.1]) he2.2 (by decide) (by rw [← ht2.1]) ht2.2 (by decide) (by decide +kernel) g m (by omega) hm (by decide)
  obtain ⟨h1, h2, h3⟩ := h
  refine ⟨by rw [opX_end]; exact h1, fun hh => by rw [opX_more]; exact h2 hh, fun hh => ⟨_, _, by rw [opX_more]; exact h3 hh, ⟨_, _, rfl, by simp⟩, rfl, _, rfl, ?_, by simp [nums_len]⟩⟩
  rw [List.getElem?_append_right (by simp [nums_len])]
  simp [nums_len]
end Go.Proofs.YtciclddfhohieaaGreatDoor
