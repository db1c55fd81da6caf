/-
  DayspecWords: the plain law.
-/
import Derived.Test.YteikhjhamjohpaaDoorLaw9RefP
import Derived.Test.YteikhjhamjohpaaDoorRef9
set_option linter.unusedVariables false
namespace Go.Proofs.YteikhjhamjohpaaDoor
open Go.RowKit

def leastL : List Nat := [2, 1, 2, 1, 2, 1, 2]
/-- a byte with the case that a mask says -/
def maskB (m : Nat) (i : Nat) (c : UInt8) : UInt8 := if m / 2 ^ (i % 8) % 2 = 1 then Lib.upperB c else c
def maskL (m : Nat) (l : List UInt8) : List UInt8 := l.mapIdx (maskB m)
/-- a small letter, a sign or a digit -/
def kindB (c : UInt8) : Bool := (97 ≤ c.toNat && c.toNat ≤ 122)
theorem low_up : ∀ n : Fin 256, kindB (UInt8.ofNat n.val) = true → lowA (Lib.upperB (UInt8.ofNat n.val)) = UInt8.ofNat n.val ∧ lowA (UInt8.ofNat n.val) = UInt8.ofNat n.val ∧ signs.contains (UInt8.ofNat n.val) = false ∧ signs.contains (Lib.upperB (UInt8.ofNat n.val)) = false := by decide +kernel
theorem low_of (c : UInt8) (h : kindB c = true) (m i : Nat) : lowA (maskB m i c) = c ∧ signs.contains (maskB m i c) = false := by
  have e : UInt8.ofNat c.toNat = c := by simp
  have := low_up ⟨c.toNat, c.toNat_lt⟩
  simp only [e] at this
  obtain ⟨h1, h2, h3, h4⟩ := this h
  unfold maskB
  split
  · exact ⟨h1, h4⟩
  · exact ⟨h2, h3⟩
theorem same_up : ∀ n : Fin 256, (n.val < 97 ∨ 122 < n.val) → Lib.upperB (UInt8.ofNat n.val) = UInt8.ofNat n.val := by decide +kernel
theorem mask_same (c : UInt8) (h : c.toNat < 97 ∨ 122 < c.toNat) (m i : Nat) : maskB m i c = c := by
  have e : UInt8.ofNat c.toNat = c := by simp
  have := same_up ⟨c.toNat, c.toNat_lt⟩ h
  simp only [e] at this
  unfold maskB
  split
  · exact this
  · rfl
theorem small_mask (m o : Nat) (l : List UInt8) (h : ∀ c ∈ l, kindB c = true) : smallL (l.mapIdx fun i => maskB m (i + o)) = l := by
  apply List.ext_getElem?
  intro i
  simp only [smallL, List.getElem?_map, List.getElem?_mapIdx]
  cases hl : l[i]? with
  | none => rfl
  | some c => simp [(low_of c (h c (List.mem_of_getElem? hl)) m (i + o)).1]
theorem wordF_small (ws : List (List UInt8)) (s : List UInt8) (t : List UInt8) (h : smallL s = smallL t) : wordF ws s = wordF ws t := by
  unfold wordF; rw [h]
theorem weekR_mask (m o : Nat) (l : List UInt8) (h : ∀ c ∈ l, kindB c = true) : weekR (l.mapIdx fun i => maskB m (i + o)) = weekR l := by
  have h0 : smallL l = l := by
    apply List.ext_getElem?
    intro i
    simp only [smallL, List.getElem?_map]
    cases hl : l[i]? with
    | none => rfl
    | some c =>
      have e : UInt8.ofNat c.toNat = c := by simp
      have := low_up ⟨c.toNat, c.toNat_lt⟩
      simp only [e] at this
      simp [(this (h c (List.mem_of_getElem? hl))).2.1]
  unfold weekR
  rw [wordF_small weekL _ l (by rw [small_mask m o l h, h0])]
theorem noAny_mask (m o : Nat) (l r : List UInt8) (h : ∀ c ∈ l, kindB c = true) : Lib.NoAny ((l.mapIdx fun i => maskB m (i + o)) ++ r) signs l.length := by
  intro j b hj hb
  rw [List.getElem?_append_left (by simpa using hj), List.getElem?_mapIdx, List.getElem?_eq_getElem hj] at hb
  simp at hb
  subst hb
  exact (low_of _ (h _ (List.getElem_mem hj)) m (j + o)).2
theorem mapIdx_same (f : Nat → UInt8 → UInt8) (r : List UInt8) (h : ∀ i c, c ∈ r → f i c = c) : r.mapIdx f = r := by
  apply List.ext_getElem?
  intro i
  rw [List.getElem?_mapIdx]
  cases hl : r[i]? with
  | none => rfl
  | some c => simp [h i c (List.mem_of_getElem? hl)]
theorem mask_split (m : Nat) (l r : List UInt8) (h : ∀ c ∈ r, c.toNat < 97) : maskL m (l ++ r) = (l.mapIdx fun i => maskB m (i + 0)) ++ r := by
  rw [maskL, List.mapIdx_append]
  congr 1
  exact mapIdx_same _ _ fun i c hc => mask_same c (.inl (h c hc)) m _
theorem parse_at (A num : List UInt8) (sg : UInt8) (n : Nat) (hA : A.length = n) (hn : Lib.NoAny (A ++ sg :: 61 :: num) signs n) (hs : sg = 60 ∨ sg = 62) :
    parseR (A ++ sg :: 61 :: num) = joinR (if sg = 60 then 4 else 3) (weekR A) (numR num) := by
  subst hA
  have hi : Lib.indexAny (A ++ sg :: 61 :: num) signs = A.length := Lib.indexAny_hit (x := sg) hn (by simp) (by rcases hs with rfl | rfl <;> decide)
  have hc : 0 ≤ Lib.indexAny (A ++ sg :: 61 :: num) signs ∧ Lib.hasPrefix ((A ++ sg :: 61 :: num).drop ((Lib.indexAny (A ++ sg :: 61 :: num) signs).toNat + 1)) [61] = true := by
    rw [hi]
    refine ⟨by omega, ?_⟩
    rw [Int.toNat_natCast, pre_iff]
    simp
  rw [parseR, if_pos hc, hi, Int.toNat_natCast, comparedR]
  simp
theorem parse_masked (m : Nat) (l num : List UInt8) (sg : UInt8) (h : ∀ c ∈ l, kindB c = true) (hs : sg = 60 ∨ sg = 62) (hd : ∀ c ∈ num, c.toNat < 97) :
    parseR (maskL m (l ++ sg :: 61 :: num)) = joinR (if sg = 60 then 4 else 3) (weekR l) (numR num) := by
  rw [mask_split m l _ (fun c hc => by
    simp only [List.mem_cons] at hc
    rcases hc with rfl | rfl | hc
    · rcases hs with rfl | rfl <;> decide
    · decide
    · exact hd c hc)]
  rw [parse_at _ num sg l.length (by simp) (noAny_mask m 0 l _ h) hs, weekR_mask m 0 l h]
theorem fold_mask : ∀ b : Fin 16, Lib.equalFold [if b.val / 1 % 2 = 1 then Lib.upperB 108 else 108, if b.val / 2 % 2 = 1 then Lib.upperB 97 else 97, if b.val / 4 % 2 = 1 then Lib.upperB 115 else 115, if b.val / 8 % 2 = 1 then Lib.upperB 116 else 116] lastL = true := by decide +kernel
theorem parse_masked_last (m : Nat) (l : List UInt8) (h : ∀ c ∈ l, kindB c = true) : parseR (maskL m (lastB ++ l)) = joinR 2 (weekR l) (0, 0) := by
  have hall : ∀ c ∈ lastB ++ l, kindB c = true := fun c hc => by
    rcases List.mem_append.1 hc with hc | hc
    · have hlb : ∀ c ∈ lastB, kindB c = true := by decide
      exact hlb c hc
    · exact h c hc
  have e0 : maskL m (lastB ++ l) = ((lastB ++ l).mapIdx fun i => maskB m (i + 0)) := rfl
  have hn := noAny_mask m 0 (lastB ++ l) [] hall
  rw [List.append_nil] at hn
  have hi : Lib.indexAny (maskL m (lastB ++ l)) signs = -1 := Lib.indexAny_none (by rw [e0]; simpa using hn)
  have e : maskL m (lastB ++ l) = [maskB m 0 108, maskB m 1 97, maskB m 2 115, maskB m 3 116] ++ (l.mapIdx fun i => maskB m (i + 4)) := by
    rw [maskL, List.mapIdx_append]; rfl
  rw [parseR, if_neg (by rw [hi]; omega), if_pos, e]
  · show joinR 2 (weekR (l.mapIdx fun i => maskB m (i + 4))) (0, 0) = _
    rw [weekR_mask m 4 l h]
  · rw [e]
    refine ⟨by simp, ?_⟩
    show Lib.equalFold [maskB m 0 108, maskB m 1 97, maskB m 2 115, maskB m 3 116] lastL = true
    have := fold_mask ⟨m % 16, Nat.mod_lt _ (by decide)⟩
    simp only [maskB]
    simp only at this
    rw [show m % 16 / 1 % 2 = m / 2 ^ (0 % 8) % 2 by first | (simp; done) | (simp; omega), show m % 16 / 2 % 2 = m / 2 ^ (1 % 8) % 2 by first | (simp; done) | (simp; omega), show m % 16 / 4 % 2 = m / 2 ^ (2 % 8) % 2 by first | (simp; done) | (simp; omega), show m % 16 / 8 % 2 = m / 2 ^ (3 % 8) % 2 by first | (simp; done) | (simp; omega)] at this
    exact this
/-- the word of a weekday, cut off, and the kind, weekday and day that the string means -/
theorem cut_fin : ∀ k : Fin 7, ∀ n : Fin 10, (leastL[k.val]?.getD 0) ≤ n.val → n.val ≤ (weekL[k.val]?.getD []).length → weekR ((weekL[k.val]?.getD []).take n.val) = ((k.val : Int), 0) := by decide +kernel
theorem week_low : ∀ k : Fin 7, ∀ c ∈ (weekL[k.val]?.getD []), kindB c = true := by decide +kernel
theorem num_fin : ∀ d : Fin 32, numR (Lib.decDigits d.val) = if d.val = 0 then (0, 5) else ((d.val : Int), 0) := by decide +kernel
theorem dig_fin : ∀ d : Fin 32, ∀ c ∈ Lib.decDigits d.val, c.toNat < 97 := by decide +kernel
theorem amb_fin : ∀ k : Fin 7, leastL[k.val]?.getD 0 = 2 → parseR (lastB ++ (weekL[k.val]?.getD []).take 1) = ((0, 0, 0), 8) := by decide +kernel
end Go.Proofs.YteikhjhamjohpaaDoor
