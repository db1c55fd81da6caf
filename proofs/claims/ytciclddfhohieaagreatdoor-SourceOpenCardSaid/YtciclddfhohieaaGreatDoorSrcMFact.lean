/-
  SourceMany's four texts, by the plain law.
-/
import Derived.Test.YtciclddfhohieaaGreatDoorSrcBack
set_option linter.unusedVariables false
namespace Go.Proofs.YtciclddfhohieaaGreatDoor
open Go.RowKit

theorem repeat_lines (x : List UInt8) : ∀ n, Lib.repeatL (x ++ [10]) n = linesT (List.replicate n x)
  | 0 => rfl
  | n + 1 => by
    rw [Lib.repeatL, repeat_lines x n, List.replicate_succ]
    simp [linesT]
theorem lines_more (x : List UInt8) (n : Nat) : linesT (List.replicate n x) ++ (x ++ [10]) = linesT (List.replicate (n + 1) x) := by
  rw [List.replicate_succ', linesT_append]
  simp [linesT]
/-- what the law asks of a text of as many lines as may be -/
structure ManyAt (x : List UInt8) (lim : Nat) : Prop where
  full : ∃ src ln, srcR (linesT (List.replicate lim x)) = ((src, ln), 0, 0) ∧ src.rules.length + src.zones.length + src.links.length + src.shifts.length = lim
  over : srcR (linesT (List.replicate (lim + 1) x)) = ((SourceP.none, LinesP.none), (lim : Int) + 1, 7)
theorem manyRu_len (x : RuleP) (k : Nat) : (manyRu x k).s.rules.length + (manyRu x k).s.zones.length + (manyRu x k).s.links.length + (manyRu x k).s.shifts.length = k := by simp [manyRu]
theorem manyZ_len (x : ZoneP) (k : Nat) : (manyZ x k).s.rules.length + (manyZ x k).s.zones.length + (manyZ x k).s.links.length + (manyZ x k).s.shifts.length = k := by simp [manyZ]
theorem manyL_len (x : LinkP) (k : Nat) : (manyL x k).s.rules.length + (manyL x k).s.zones.length + (manyL x k).s.links.length + (manyL x k).s.shifts.length = k := by simp [manyL]
theorem manyS_len (x : List UInt8) (k : Nat) : (manyS x k).s.rules.length + (manyS x k).s.zones.length + (manyS x k).s.links.length + (manyS x k).s.shifts.length = k := by simp [manyS]
def lnR : List UInt8 := [82, 117, 108, 101, 32, 82, 32, 49, 57, 57, 48, 32, 111, 110, 108, 121, 32, 45, 32, 74, 97, 110, 32, 49, 32, 48, 58, 48, 48, 32, 48, 32, 45]
def lnZ : List UInt8 := [90, 111, 110, 101, 32, 90, 32, 48, 58, 48, 48, 32, 45, 32, 71, 77, 84]
def lnL : List UInt8 := [76, 105, 110, 107, 32, 90, 32, 89]
def lnS : List UInt8 := [83, 104, 105, 102, 116, 32, 82]
theorem many_R : ManyAt lnR 2000 := by
  have h2 : (ruleR [[82], [49, 57, 57, 48], [111, 110, 108, 121], [45], [74, 97, 110], [49], [48, 58, 48, 48], [48], [45]]).2 = 0 := by decide +kernel
  have h : ruleR [[82], [49, 57, 57, 48], [111, 110, 108, 121], [45], [74, 97, 110], [49], [48, 58, 48, 48], [48], [45]] = ((ruleR [[82], [49, 57, 57, 48], [111, 110, 108, 121], [45], [74, 97, 110], [49], [48, 58, 48, 48], [48], [45]]).1, 0) := by rw [← h2]
  have hx : LineIs lnR (ruleB :: [[82], [49, 57, 57, 48], [111, 110, 108, 121], [45], [74, 97, 110], [49], [48, 58, 48, 48], [48], [45]]) := ⟨by decide +kernel, by decide +kernel, by decide +kernel⟩
  have := many_lines (lim := 2000) (manyR_step h) rfl (fun k => rfl) hx (by decide)
  exact ⟨⟨_, _, this.1, manyRu_len _ _⟩, this.2⟩
theorem many_Z : ManyAt lnZ 500 := by
  have h2 : (eraR [[48, 58, 48, 48], [45], [71, 77, 84]]).2 = 0 := by decide +kernel
  have h : eraR [[48, 58, 48, 48], [45], [71, 77, 84]] = ((eraR [[48, 58, 48, 48], [45], [71, 77, 84]]).1, 0) := by rw [← h2]
  have hx : LineIs lnZ ([90, 111, 110, 101] :: [90] :: [[48, 58, 48, 48], [45], [71, 77, 84]]) := ⟨by decide +kernel, by decide +kernel, by decide +kernel⟩
  have := many_lines (lim := 500) (manyZ_step (nm := [90]) (by decide +kernel) h (by decide +kernel)) rfl (fun k => rfl) hx (by decide)
  exact ⟨⟨_, _, this.1, manyZ_len _ _⟩, this.2⟩
theorem many_L : ManyAt lnL 1000 := by
  have hx : LineIs lnL [[76, 105, 110, 107], [90], [89]] := ⟨by decide +kernel, by decide +kernel, by decide +kernel⟩
  have := many_lines (lim := 1000) (manyL_step (x := ⟨[90], [89]⟩) (by decide +kernel)) rfl (fun k => rfl) hx (by decide)
  exact ⟨⟨_, _, this.1, manyL_len _ _⟩, this.2⟩
theorem many_S : ManyAt lnS 2000 := by
  have hx : LineIs lnS [[83, 104, 105, 102, 116], [82]] := ⟨by decide +kernel, by decide +kernel, by decide +kernel⟩
  have := many_lines (lim := 2000) (manyS_step (x := [82]) (by decide +kernel)) rfl (fun k => rfl) hx (by decide)
  exact ⟨⟨_, _, this.1, manyS_len _ _⟩, this.2⟩
end Go.Proofs.YtciclddfhohieaaGreatDoor
