/-
  DayspecRefuses: the plain law.
-/
import Derived.Test.YteikhjhamjohpaaDoorLaw9Back
set_option linter.unusedVariables false
namespace Go.Proofs.YteikhjhamjohpaaDoor
open Go.RowKit

def lastB : List UInt8 := [108, 97, 115, 116]
def sixL (t : List UInt8) : List (List UInt8) := [t ++ [32], [32] ++ t, t ++ [61], t ++ [62, 61], lastB ++ t, t ++ [0]]
def refused (r : (Int × Int × Int) × Int) : Bool := r.1 == (0, 0, 0) && (r.2 == 5 || r.2 == 8)
theorem six_fin : ∀ k : Fin 4, ∀ wk : Fin 7, ∀ d : Fin 31, ((sixL (madeT (madeR k.val wk.val d.val))).all fun l => refused (parseR l)) = true ∧ (madeT (madeR k.val wk.val d.val)).length ≤ 10 := by decide +kernel
theorem six_all (k wk d : Nat) : ((sixL (madeT (madeR k wk d))).all fun l => refused (parseR l)) = true ∧ (madeT (madeR k wk d)).length ≤ 10 := by
  have h := six_fin ⟨k % 4, Nat.mod_lt _ (by decide)⟩ ⟨wk % 7, Nat.mod_lt _ (by decide)⟩ ⟨d % 31, Nat.mod_lt _ (by decide)⟩
  simp only [← madeR_mod] at h
  exact h

theorem joinR_err (k : Int) (a b : Int × Int) (h : (joinR k a b).2 ≠ 0) : (joinR k a b).1 = (0, 0, 0) := by
  unfold joinR at h ⊢
  split <;> rename_i h1
  · split <;> rename_i h2
    · rw [if_pos h1, if_pos h2] at h; exact absurd rfl h
    · rfl
  · rfl
theorem parseR_err (s : List UInt8) (h : (parseR s).2 ≠ 0) : (parseR s).1 = (0, 0, 0) := by
  unfold parseR at h ⊢
  split <;> rename_i h1
  · rw [if_pos h1] at h; exact joinR_err _ _ _ h
  · rw [if_neg h1] at h
    split <;> rename_i h2
    · rw [if_pos h2] at h; exact joinR_err _ _ _ h
    · rw [if_neg h2] at h; exact joinR_err _ _ _ h
theorem joinR_bad (k : Int) (a b : Int × Int) (h : b.2 ≠ 0) : (joinR k a b).2 ≠ 0 := by
  unfold joinR
  by_cases h1 : a.2 = 0
  · rw [if_pos h1, if_neg h]; exact h
  · rw [if_neg h1]; exact h1
theorem numR_bad (l : List UInt8) (c : UInt8) (h : ¬ (48 ≤ c.toNat ∧ c.toNat ≤ 57)) : (numR (l ++ [c])).2 ≠ 0 := by
  match l with
  | [] => simp only [List.nil_append, numR]; rw [if_neg (by omega)]; decide
  | [a] => simp only [List.cons_append, List.nil_append, numR]; rw [if_neg (by omega)]; decide
  | a :: b :: [] => show (5 : Int) ≠ 0; decide
  | a :: b :: x :: l => show (5 : Int) ≠ 0; decide
theorem one_fin : ∀ d : Fin 31, ∀ c : Fin 256, ¬ (48 ≤ c.val ∧ c.val ≤ 57) → (parseR (Lib.decDigits (1 + d.val) ++ [UInt8.ofNat c.val])).2 ≠ 0 := by decide +kernel
theorem parse_cmp (a b c sg : UInt8) (l : List UInt8) (ha : signs.contains a = false) (hb : signs.contains b = false) (hc : signs.contains c = false) (hs : signs.contains sg = true) :
    parseR (a :: b :: c :: sg :: 61 :: l) = joinR (if sg = 60 then 4 else 3) (weekR [a, b, c]) (numR l) := by
  have e : Lib.indexAny (a :: b :: c :: sg :: 61 :: l) signs = 3 := Lib.indexAny_hit (i := 3) (x := sg) ((((Lib.NoAny.zero _ _).succ rfl ha).succ rfl hb).succ rfl hc) rfl hs
  have h : 0 ≤ Lib.indexAny (a :: b :: c :: sg :: 61 :: l) signs ∧ Lib.hasPrefix ((a :: b :: c :: sg :: 61 :: l).drop ((Lib.indexAny (a :: b :: c :: sg :: 61 :: l) signs).toNat + 1)) [61] = true := by
    rw [e]; exact ⟨by decide, by simp [Lib.hasPrefix]⟩
  rw [parseR, if_pos h, e]
  simp [comparedR]
theorem week_fin : ∀ wk : Fin 7, ∃ a b c, weekT (wk.val : Int) = [a, b, c] ∧ signs.contains a = false ∧ signs.contains b = false ∧ signs.contains c = false := by
  intro wk
  obtain ⟨a, b, c, l, hl, ha, hn, ht⟩ := weekL_at wk.val wk.isLt
  refine ⟨_, _, _, ht, ?_⟩
  have h : ∀ i : Fin 7, ((weekL[i.val]?.getD []).take 3).all (fun x => !signs.contains x && !signs.contains (Lib.upperB x)) = true := by decide +kernel
  have := h wk
  rw [hl] at this
  simp at this
  simp [this]
theorem byte_bad (k wk d : Nat) (c : UInt8) (h : ¬ (48 ≤ c.toNat ∧ c.toNat ≤ 57)) (hk : k % 4 ≠ 1) : (parseR (madeT (madeR k wk d) ++ [c])).2 ≠ 0 := by
  have hc : c = UInt8.ofNat c.toNat := by simp
  rcases (by omega : k % 4 = 0 ∨ k % 4 = 2 ∨ k % 4 = 3) with e | e | e
  · have hm : madeT (madeR k wk d) = Lib.decDigits (1 + d % 31) := by
      simp only [madeT, madeR, dayText, e]
      simp
      congr 1
    rw [hm, hc]
    exact one_fin ⟨d % 31, Nat.mod_lt _ (by decide)⟩ ⟨c.toNat, c.toNat_lt⟩ h
  all_goals
    obtain ⟨x, y, z, ht, hx, hy, hz⟩ := week_fin ⟨wk % 7, Nat.mod_lt _ (by decide)⟩
    simp only at ht
    simp only [madeT, madeR, dayText, e]
    simp
    rw [show ((wk : Int) % 7) = ((wk % 7 : Nat) : Int) from by omega, ht]
    simp only [List.cons_append, List.nil_append]
    rw [← ne_eq, parse_cmp x y z _ _ hx hy hz (by decide)]
    exact joinR_bad _ _ _ (numR_bad _ _ h)
theorem byte_last (k wk d : Nat) (hk : k % 4 = 1) : Lib.hasPrefix (madeT (madeR k wk d)) lastB = true := by
  simp only [madeT, madeR, dayText, hk]
  simp [Lib.hasPrefix, lastB]

def elevenL (m : Nat) : List (Int × Int × Int) := [(5 + m, 0, 0), (-m, 0, 0), (1, 0, 32 + m), (1, 0, -m), (1, 1 + m, 1), (2, 7 + m, 0), (2, -1 - m, 0), (2, 0, 1 + m), (3, 7 + m, 1), (4, 0, 32 + m), (4, 0, -m)]
theorem eleven_bad (m : Nat) : ∀ x ∈ elevenL m, printR x.1 x.2.1 x.2.2 = ([], 2) := by
  intro x hx
  have hr : ¬ rightDay x.1 x.2.1 x.2.2 = true := by
    simp only [elevenL, List.mem_cons, List.not_mem_nil, or_false] at hx
    rcases hx with rfl | rfl | rfl | rfl | rfl | rfl | rfl | rfl | rfl | rfl | rfl
    all_goals (simp [rightDay]; try omega)
  rw [printR, if_neg hr]
end Go.Proofs.YteikhjhamjohpaaDoor
