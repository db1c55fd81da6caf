/-
  The law RulelineFirst: what the call returns.
-/
import Derived.Test.YtgfnnmdngckmmaaGreatDoorRuleDraft
import Derived.ArgAppend
set_option linter.unusedVariables false
namespace Go.Proofs.YtgfnnmdngckmmaaGreatDoor
open Go.RowKit

def wrongL : List (List UInt8) := [[57], [50, 49, 53, 48], [115, 111, 109, 101, 116, 105, 109, 101, 115], [77, 97, 105], [83, 117, 110, 62, 49, 53], [50, 58, 48, 48, 120], [49, 58, 54, 48], [65, 66, 67, 68, 69]]
def atL : List Nat := [0, 1, 2, 4, 5, 6, 7, 8]
def errL : List Int := [9, 3, 8, 8, 5, 5, 5, 5]
def kOf (j : Nat) : Option Nat := if j ≤ 2 then some j else if j = 3 then none else if j ≤ 8 then some (j - 1) else none
/-- the fields behind m rounds -/
def selF (m : Nat) (t : Nat → Bool) (fs : List (List UInt8)) (j : Nat) : List UInt8 := match kOf j with
  | some k => if 8 ≤ k + m ∧ t k = true then wrongL.getD k [] else fs.getD j []
  | none => fs.getD j []
def wantF (t : Nat → Bool) : Nat → Int
  | 0 => 0
  | m + 1 => if t (7 - m) = true then errL.getD (7 - m) 0 else wantF t m
def allF (m : Nat) (t : Nat → Bool) (fs : List (List UInt8)) : List (List UInt8) := [selF m t fs 0, selF m t fs 1, selF m t fs 2, selF m t fs 3, selF m t fs 4, selF m t fs 5, selF m t fs 6, selF m t fs 7, selF m t fs 8]
theorem selF_zero (t : Nat → Bool) (fs : List (List UInt8)) (j : Nat) : selF 0 t fs j = fs.getD j [] := by
  unfold selF
  cases hk : kOf j with
  | none => rfl
  | some k =>
    have : k < 8 := by
      unfold kOf at hk
      split at hk
      · cases hk; omega
      · split at hk
        · cases hk
        · split at hk
          · cases hk; omega
          · cases hk
    simp only
    rw [if_neg (by omega)]
theorem kOf_at (k : Nat) (hk : k < 8) : kOf (atL.getD k 0) = some k := by
  rcases (by omega : k = 0 ∨ k = 1 ∨ k = 2 ∨ k = 3 ∨ k = 4 ∨ k = 5 ∨ k = 6 ∨ k = 7) with rfl | rfl | rfl | rfl | rfl | rfl | rfl | rfl <;> rfl
theorem kOf_inj {j k : Nat} (h : kOf j = some k) : j = atL.getD k 0 ∧ k < 8 := by
  unfold kOf at h
  split at h
  · cases h
    rcases (by omega : j = 0 ∨ j = 1 ∨ j = 2) with rfl | rfl | rfl <;> decide
  · split at h
    · cases h
    · split at h
      · cases h
        rcases (by omega : j = 4 ∨ j = 5 ∨ j = 6 ∨ j = 7 ∨ j = 8) with rfl | rfl | rfl | rfl | rfl <;> decide
      · cases h
theorem selF_yes (m : Nat) (t : Nat → Bool) (fs : List (List UInt8)) (hm : m < 8) (h : t (7 - m) = true) (j : Nat) : selF (m + 1) t fs j = if j = atL.getD (7 - m) 0 then wrongL.getD (7 - m) [] else selF m t fs j := by
  unfold selF
  cases hk : kOf j with
  | none => simp only; rw [if_neg (fun h2 => by rw [h2, kOf_at (7 - m) (by omega)] at hk; cases hk)]
  | some k =>
    obtain ⟨h1, h2⟩ := kOf_inj hk
    simp only
    by_cases hkm : k = 7 - m
    · subst hkm
      rw [if_pos ⟨by omega, h⟩, if_pos h1]
    · have hj : ¬ j = atL.getD (7 - m) 0 := fun h3 => by
        rw [h3, kOf_at (7 - m) (by omega)] at hk
        cases hk
        exact hkm rfl
      rw [if_neg hj]
      by_cases h8 : 8 ≤ k + m
      · simp only [h8, true_and, show 8 ≤ k + (m + 1) by omega]
      · rw [if_neg (fun h3 => by omega), if_neg (fun h3 => h8 h3.1)]
theorem selF_no (m : Nat) (t : Nat → Bool) (fs : List (List UInt8)) (hm : m < 8) (h : t (7 - m) = false) (j : Nat) : selF (m + 1) t fs j = selF m t fs j := by
  unfold selF
  cases hk : kOf j with
  | none => rfl
  | some k =>
    simp only
    by_cases h8 : 8 ≤ k + m
    · simp only [h8, true_and, show 8 ≤ k + (m + 1) by omega]
    · by_cases hkm : k = 7 - m
      · subst hkm
        rw [if_neg (by rw [h]; simp), if_neg (by rw [h]; simp)]
      · rw [if_neg (fun h3 => by omega), if_neg (fun h3 => h8 h3.1)]
theorem wrong_errs : (setR [57]).2 = 9 ∧ (yearR [50, 49, 53, 48]).2 = 3 ∧ (wordR monthL 1 [77, 97, 105]).2 = 8 ∧ (parseR [83, 117, 110, 62, 49, 53]).2 = 5 ∧ (clockR [50, 58, 48, 48, 120]).2 = 5 ∧ (offParseR [49, 58, 54, 48]).2 = 5 ∧ (letterR [65, 66, 67, 68, 69]).2 = 5 := by decide +kernel
theorem wrong_until (f : Int) : (untilR [115, 111, 109, 101, 116, 105, 109, 101, 115] f).2 = 8 := by
  rw [until_word (by intro c hc; cases hc; decide)]
  rw [show (wordR toL 1 [115, 111, 109, 101, 116, 105, 109, 101, 115]).2 = 8 by decide +kernel]
  rfl
theorem wants (t : Nat → Bool) : wantF t 8 = if t 0 = true then 9 else if t 1 = true then 3 else if t 2 = true then 8 else if t 3 = true then 8 else if t 4 = true then 5 else if t 5 = true then 5 else if t 6 = true then 5 else if t 7 = true then 5 else 0 := rfl
theorem first_law {r : RuleP} (h : RuleRight r) (t : Nat → Bool) : (ruleR (allF 8 t (ruleFs r))).2 = wantF t 8 := by
  obtain ⟨x0, x1, x3, x4, x5, x6, x7⟩ := wrong_errs
  have e0 := set_back h.name
  have e1 := year_back h.frm
  have e2 := until_back (f := r.frm) h.til
  have e4 := (month_back h.mon).1
  have e5 := (day_back h.day).1
  have e6 := clock_back h.hour
  have e7 := off_back h.save
  have e8 := lett_back h.lett
  have s0 : selF 8 t (ruleFs r) 0 = if t 0 = true then [57] else r.name := by simp [selF, kOf, wrongL, ruleFs]
  have s1 : selF 8 t (ruleFs r) 1 = if t 1 = true then [50, 49, 53, 48] else Lib.itoa r.frm := by simp [selF, kOf, wrongL, ruleFs]
  have s2 : selF 8 t (ruleFs r) 2 = if t 2 = true then [115, 111, 109, 101, 116, 105, 109, 101, 115] else lastT r.frm r.til := by simp [selF, kOf, wrongL, ruleFs]
  have s3 : selF 8 t (ruleFs r) 3 = [45] := by simp [selF, kOf, ruleFs]
  have s4 : selF 8 t (ruleFs r) 4 = if t 3 = true then [77, 97, 105] else monthT r.mon := by simp [selF, kOf, wrongL, ruleFs]
  have s5 : selF 8 t (ruleFs r) 5 = if t 4 = true then [83, 117, 110, 62, 49, 53] else dayText r.day.1 r.day.2.1 r.day.2.2 := by simp [selF, kOf, wrongL, ruleFs]
  have s6 : selF 8 t (ruleFs r) 6 = if t 5 = true then [50, 58, 48, 48, 120] else clockT r.hour.1 r.hour.2 := by simp [selF, kOf, wrongL, ruleFs]
  have s7 : selF 8 t (ruleFs r) 7 = if t 6 = true then [49, 58, 54, 48] else offTx r.save := by simp [selF, kOf, wrongL, ruleFs]
  have s8 : selF 8 t (ruleFs r) 8 = if t 7 = true then [65, 66, 67, 68, 69] else lettT r.lett := by simp [selF, kOf, wrongL, ruleFs]
  have hE : ∀ a0 a1 a2 a4 a5 a6 a7 a8, (ruleR [a0, a1, a2, [45], a4, a5, a6, a7, a8]).2 = firstE (errsR a0 a1 a2 a4 a5 a6 a7 a8) := fun a0 a1 a2 a4 a5 a6 a7 a8 => by
    simp only [ruleR, if_true]
    by_cases hz : firstE (errsR a0 a1 a2 a4 a5 a6 a7 a8) = 0
    · rw [if_pos hz, hz]
    · rw [if_neg hz]
  rw [allF, s3, hE, wants, errsR, s0, s1, s2, s4, s5, s6, s7, s8]
  clear s0 s1 s2 s3 s4 s5 s6 s7 s8 hE
  by_cases t0 : t 0 = true
  · rw [if_pos t0, x0, if_pos t0]; rfl
  rw [if_neg t0, e0, if_neg t0]
  by_cases t1 : t 1 = true
  · rw [if_pos t1, x1, if_pos t1]; rfl
  rw [if_neg t1, e1, if_neg t1]
  by_cases t2 : t 2 = true
  · rw [if_pos t2, wrong_until, if_pos t2]; rfl
  rw [if_neg t2, e2, if_neg t2]
  by_cases t3 : t 3 = true
  · rw [if_pos t3, x3, if_pos t3]; rfl
  rw [if_neg t3, e4, if_neg t3]
  by_cases t4 : t 4 = true
  · rw [if_pos t4, x4, if_pos t4]; rfl
  rw [if_neg t4, e5, if_neg t4]
  by_cases t5 : t 5 = true
  · rw [if_pos t5, x5, if_pos t5]; rfl
  rw [if_neg t5, e6, if_neg t5]
  by_cases t6 : t 6 = true
  · rw [if_pos t6, x6, if_pos t6]; rfl
  rw [if_neg t6, e7, if_neg t6]
  by_cases t7 : t 7 = true
  · rw [if_pos t7, x7, if_pos t7]; rfl
  rw [if_neg t7, e8, if_neg t7]; rfl
theorem selF_len {r : RuleP} (h : RuleRight r) (t : Nat → Bool) (m j : Nat) : (selF m t (ruleFs r) j).length ≤ 30 := by
  have hf : ((ruleFs r).getD j []).length ≤ 30 := by
    rw [List.getD_eq_getElem?_getD]
    cases hj : (ruleFs r)[j]? with
    | none => simp
    | some l => exact fields_len h l (List.mem_cons_of_mem _ (List.mem_of_getElem? hj))
  unfold selF
  split
  · rename_i k hk
    have hk8 := (kOf_inj hk).2
    split
    · rcases (by omega : k = 0 ∨ k = 1 ∨ k = 2 ∨ k = 3 ∨ k = 4 ∨ k = 5 ∨ k = 6 ∨ k = 7) with rfl | rfl | rfl | rfl | rfl | rfl | rfl | rfl <;> decide
    · exact hf
  · exact hf

/-- the row of fields behind m rounds, and the three tables -/
structure FSt (w : World) (g gA gW gE : Nat) (fs : List (List UInt8)) (t : Nat → Bool) (m cap : Nat) (C : Array Value) (W : World) : Prop where
  row : Blk W g 9 C
  size : C.size = cap
  cell : ∀ j, j < 9 → C[1 + j]? = some (.string ⟨(selF m t fs j).toArray⟩)
  tA : Blk W gA 3 #[.int .i64 0, .int .i64 1, .int .i64 2, .int .i64 4, .int .i64 5, .int .i64 6, .int .i64 7, .int .i64 8]
  tW : Blk W gW 9 #[.string ⟨#[57]⟩, .string ⟨#[50, 49, 53, 48]⟩, .string ⟨#[115, 111, 109, 101, 116, 105, 109, 101, 115]⟩, .string ⟨#[77, 97, 105]⟩, .string ⟨#[83, 117, 110, 62, 49, 53]⟩, .string ⟨#[50, 58, 48, 48, 120]⟩, .string ⟨#[49, 58, 54, 48]⟩, .string ⟨#[65, 66, 67, 68, 69]⟩]
  tE : Blk W gE 30 #[.int .i64 9, .int .i64 3, .int .i64 8, .int .i64 8, .int .i64 5, .int .i64 5, .int .i64 5, .int .i64 5]
  old : Below w.heap.size w W
theorem FSt.below {w W W' : World} {g gA gW gE m cap : Nat} {fs : List (List UInt8)} {t : Nat → Bool} {C : Array Value} (h : FSt w g gA gW gE fs t m cap C W) (hb : Below W.heap.size W W') : FSt w g gA gW gE fs t m cap C W' :=
  ⟨h.row.below hb h.row.lt, h.size, h.cell, h.tA.below hb h.tA.lt, h.tW.below hb h.tW.lt, h.tE.below hb h.tE.lt, h.old.trans (hb.mono h.old.size)⟩
theorem FSt.drew {w W : World} {g gA gW gE m cap : Nat} {fs : List (List UInt8)} {t : Nat → Bool} {C : Array Value} (h : FSt w g gA gW gE fs t m cap C W) : FSt w g gA gW gE fs t m cap C W.drew :=
  ⟨h.row, h.size, h.cell, h.tA, h.tW, h.tE, h.old.drew⟩
theorem FSt.at_ {w W : World} {g gA gW gE m cap : Nat} {fs : List (List UInt8)} {t : Nat → Bool} {C : Array Value} (h : FSt w g gA gW gE fs t m cap C W) (k : Nat) (hk : k < 8) : W.cell? ⟨gA, k, none⟩ = some (.int .i64 ((atL.getD k 0 : Nat) : Int)) := by
  refine h.tA.cell_ ?_
  rcases (by omega : k = 0 ∨ k = 1 ∨ k = 2 ∨ k = 3 ∨ k = 4 ∨ k = 5 ∨ k = 6 ∨ k = 7) with rfl | rfl | rfl | rfl | rfl | rfl | rfl | rfl <;> rfl
theorem FSt.wr {w W : World} {g gA gW gE m cap : Nat} {fs : List (List UInt8)} {t : Nat → Bool} {C : Array Value} (h : FSt w g gA gW gE fs t m cap C W) (k : Nat) (hk : k < 8) : W.cell? ⟨gW, k, none⟩ = some (.string ⟨(wrongL.getD k []).toArray⟩) := by
  refine h.tW.cell_ ?_
  rcases (by omega : k = 0 ∨ k = 1 ∨ k = 2 ∨ k = 3 ∨ k = 4 ∨ k = 5 ∨ k = 6 ∨ k = 7) with rfl | rfl | rfl | rfl | rfl | rfl | rfl | rfl <;> rfl
theorem FSt.er {w W : World} {g gA gW gE m cap : Nat} {fs : List (List UInt8)} {t : Nat → Bool} {C : Array Value} (h : FSt w g gA gW gE fs t m cap C W) (k : Nat) (hk : k < 8) : W.cell? ⟨gE, k, none⟩ = some (.int .i64 (errL.getD k 0)) := by
  refine h.tE.cell_ ?_
  rcases (by omega : k = 0 ∨ k = 1 ∨ k = 2 ∨ k = 3 ∨ k = 4 ∨ k = 5 ∨ k = 6 ∨ k = 7) with rfl | rfl | rfl | rfl | rfl | rfl | rfl | rfl <;> rfl
theorem at_lt (k : Nat) (hk : k < 8) : atL.getD k 0 < 9 := by
  rcases (by omega : k = 0 ∨ k = 1 ∨ k = 2 ∨ k = 3 ∨ k = 4 ∨ k = 5 ∨ k = 6 ∨ k = 7) with rfl | rfl | rfl | rfl | rfl | rfl | rfl | rfl <;> decide
theorem FSt.set_ {w W : World} {g gA gW gE m cap : Nat} {fs : List (List UInt8)} {t : Nat → Bool} {C : Array Value} (h : FSt w g gA gW gE fs t m cap C W) (hm : m < 8) (ht : t (7 - m) = true) (hcap : 10 ≤ cap) (h0 : w.heap.size ≤ g) (hA : gA ≠ g) (hW : gW ≠ g) (hE : gE ≠ g) :
    FSt w g gA gW gE fs t (m + 1) cap (C.setIfInBounds (1 + atL.getD (7 - m) 0) (.string ⟨(wrongL.getD (7 - m) []).toArray⟩)) (W.setCell ⟨g, 1 + atL.getD (7 - m) 0, none⟩ (.string ⟨(wrongL.getD (7 - m) []).toArray⟩)) := by
  refine ⟨h.row.set_ _ _, by simp [h.size], fun j hj => ?_, h.tA.far hA _, h.tW.far hW _, h.tE.far hE _, h.old.setCell h0 _⟩
  have hl := at_lt (7 - m) (by omega)
  rw [selF_yes m t fs hm ht]
  by_cases hja : j = atL.getD (7 - m) 0
  · rw [if_pos hja, hja, Array.getElem?_setIfInBounds_self, if_pos (by rw [h.size]; omega)]
  · rw [if_neg hja, Array.getElem?_setIfInBounds_ne (by omega)]
    exact h.cell j hj
theorem FSt.keep {w W : World} {g gA gW gE m cap : Nat} {fs : List (List UInt8)} {t : Nat → Bool} {C : Array Value} (h : FSt w g gA gW gE fs t m cap C W) (hm : m < 8) (ht : t (7 - m) = false) : FSt w g gA gW gE fs t (m + 1) cap C W :=
  ⟨h.row, h.size, fun j hj => by rw [selF_no m t fs hm ht]; exact h.cell j hj, h.tA, h.tW, h.tE, h.old⟩

def fbit (c k : Nat) : Bool := bits BinOp.and IntKind.u8 ((c : Int) / 2 ^ k) 1 == 1

set_option maxRecDepth 100000 in
set_option maxHeartbeats 2000000 in
theorem rfirst_walk (D : Array Value) (V : Value) (T : ByteArray) (fs : List (List UInt8)) (c : Nat) (w : World) (hD : (Tryz.prog.info? 41).map (·.size) = some D.size) (hc : c < 256)
    (HM : Hid (∀ W, Calls Tryz.prog 15 #[.agg D] W fun e w' => e = .returned V ∧ Below W.heap.size W w'))
    (HP : Hid (∀ W, Below w.heap.size w W → Calls Tryz.prog 13 #[V] W fun e w' => e = .returned (.tuple #[.string T, .int .i64 0]) ∧ Below W.heap.size W w'))
    (HWo : Hid (∀ W, Below w.heap.size w W → Calls Tryz.prog 16 #[.string T] W fun e w' => (∃ g cap C, e = .returned (.slice (some ⟨g, 0, none⟩) 10 cap) ∧ 10 ≤ cap ∧ cap ≤ maxLen ∧ w.heap.size ≤ g ∧ Hid (Blk w' g 9 C ∧ C.size = cap ∧ ∀ j, j < 9 → C[1 + j]? = some (.string ⟨(fs.getD j []).toArray⟩))) ∧ Below W.heap.size W w'))
    (HPa : Hid (∀ W g cap, Below w.heap.size w W → StrRow W g 1 (allF 8 (fbit c) fs) → Calls Tryz.prog 11 #[.slice (some ⟨g, 1, none⟩) 9 cap] W fun e w' => (∃ x : RuleP, e = .returned (.tuple #[ruleV x, .int .i64 (wantF (fbit c) 8)]) ∧ (wantF (fbit c) 8 ≠ 0 → x = RuleP.none)) ∧ Below W.heap.size W w'))
    (HPx : Hid (∀ W g cap s, Below w.heap.size w W → W.cell? ⟨g, 4, none⟩ = some (.string s) → s.data.toList ≠ [45] → Calls Tryz.prog 11 #[.slice (some ⟨g, 1, none⟩) 9 cap] W fun e w' => e = .returned (.tuple #[ruleV RuleP.none, .int .i64 5]) ∧ Below W.heap.size W w'))
    (HPn : Hid (∀ W A n cap, n ≠ 9 → Calls Tryz.prog 11 #[.slice A n cap] W fun e w' => e = .returned (.tuple #[ruleV RuleP.none, .int .i64 5]) ∧ Below W.heap.size W w'))
    (HW : Hid (∀ W, Below w.heap.size w W → Calls Tryz.prog 10 #[] W fun e w' => e = .returned (.bool true) ∧ Below W.heap.size W w')) :
    Calls Tryz.prog 8 #[.agg D, .int .u8 (c : Int)] w fun e w' => e = .returned (.bool true) ∧ Below w.heap.size w w' := by
  go_enter Tryz.func8, Tryz.ntmps8
  go_wp2_with (first | (refine wpList_load_row rfl 41 (.tmp 2) rfl w.heap.size rfl 41 D (0, 0) _ (Blk.new _ _ _) Tryz.underlying41 rfl hD ?_) | fail)
  refine (HM.out _).mono ?_
  rintro e w1 ⟨rfl, hb1⟩
  have HB := Lib.hid (show Below w.heap.size w w1 from ((Below.refl _ _).alloc (Nat.le_refl _) _).trans (hb1.mono (by simp)))
  clear hb1
  go_wp2_with fail
  refine (HP.out _ HB.out).mono ?_
  rintro e w2 ⟨rfl, hb2⟩
  have HB2 := Lib.hid (show Below w.heap.size w w2 from HB.out.trans (hb2.mono HB.out.size))
  clear hb2 HB
  go_wp2_with fail
  refine (HWo.out _ HB2.out).mono ?_
  rintro e w3 ⟨⟨g, cap, C, rfl, hcap, hmax, hg, HC⟩, hb3⟩
  have HB3 := Lib.hid (show Below w.heap.size w w3 from HB2.out.trans (hb3.mono HB2.out.size))
  clear hb3 HB2
  have hcap1 : ¬ cap = 1 := by omega
  have hcap2 : (10 : Int) ≤ (cap : Int) := by omega
  go_upto_region 10 with fail
  have hlt3 : g < w3.heap.size := HC.out.1.lt
  have HS := Lib.hid (show FSt w g w3.heap.size (w3.heap.size + 1) (w3.heap.size + 1 + 1) fs (fbit c) 0 cap C (((w3.alloc (.cells #[.int .i64 0, .int .i64 1, .int .i64 2, .int .i64 4, .int .i64 5, .int .i64 6, .int .i64 7, .int .i64 8] 3)).alloc (.cells #[.string ⟨#[57]⟩, .string ⟨#[50, 49, 53, 48]⟩, .string ⟨#[115, 111, 109, 101, 116, 105, 109, 101, 115]⟩, .string ⟨#[77, 97, 105]⟩, .string ⟨#[83, 117, 110, 62, 49, 53]⟩, .string ⟨#[50, 58, 48, 48, 120]⟩, .string ⟨#[49, 58, 54, 48]⟩, .string ⟨#[65, 66, 67, 68, 69]⟩] 9)).alloc (.cells #[.int .i64 9, .int .i64 3, .int .i64 8, .int .i64 8, .int .i64 5, .int .i64 5, .int .i64 5, .int .i64 5] 30)) from
    ⟨((HC.out.1.alloc _).alloc _).alloc _, HC.out.2.1, fun j hj => by rw [selF_zero]; exact HC.out.2.2 j hj, ((Blk.new' _ _ _ rfl).alloc _).alloc _, (Blk.new' _ _ _ (by simp)).alloc _, Blk.new' _ _ _ (by simp), rbelow_alloc (rbelow_alloc (rbelow_alloc HB3.out _) _) _⟩)
  generalize ((w3.alloc (.cells #[.int .i64 0, .int .i64 1, .int .i64 2, .int .i64 4, .int .i64 5, .int .i64 6, .int .i64 7, .int .i64 8] 3)).alloc (.cells #[.string ⟨#[57]⟩, .string ⟨#[50, 49, 53, 48]⟩, .string ⟨#[115, 111, 109, 101, 116, 105, 109, 101, 115]⟩, .string ⟨#[77, 97, 105]⟩, .string ⟨#[83, 117, 110, 62, 49, 53]⟩, .string ⟨#[50, 58, 48, 48, 120]⟩, .string ⟨#[49, 58, 54, 48]⟩, .string ⟨#[65, 66, 67, 68, 69]⟩] 9)).alloc (.cells #[.int .i64 9, .int .i64 3, .int .i64 8, .int .i64 8, .int .i64 5, .int .i64 5, .int .i64 5, .int .i64 5] 30) = w4 at *
  clear HC HB3 HM HP HWo hD
  generalize w3.heap.size = gA at *
  go_wp2_with fail
  go_loopw [8, 12] (fun wt k wr => ∃ (m : Nat) (C' : Array Value), m ≤ 8 ∧ k = .int .i64 (7 - (m : Int)) ∧ wt = .int .i64 (wantF (fbit c) m) ∧ Hid (FSt w g gA (gA + 1) (gA + 1 + 1) fs (fbit c) m cap C' wr)) (fun _ k _ => (intOf k + 1).toNat)
  case atStart => exact ⟨0, C, Nat.zero_le _, rfl, rfl, HS⟩
  case round =>
    clear HS
    obtain ⟨m, C', hm, rfl, rfl, HS⟩ := hrel
    by_cases h8 : m < 8
    · obtain ⟨k, hk⟩ : ∃ k, 7 - m = k := ⟨_, rfl⟩
      have hk7 : k < 8 := by omega
      have hkI : 7 - (m : Int) = (k : Int) := by omega
      have hk0 : (0 : Int) ≤ (k : Int) := by omega
      have hk8 : (k : Int) < 8 := by omega
      rw [hkI]
      have h9 := at_lt k hk7
      obtain ⟨ak, hak⟩ : ∃ ak, atL.getD k 0 = ak := ⟨_, rfl⟩
      obtain ⟨sk, hwk⟩ : ∃ sk : ByteArray, (⟨(wrongL.getD k []).toArray⟩ : ByteArray) = sk := ⟨_, rfl⟩
      obtain ⟨ek, hek⟩ : ∃ ek, errL.getD k 0 = ek := ⟨_, rfl⟩
      have Hk := Lib.hid (And.intro hk (And.intro hak (And.intro hwk hek)))
      rw [hak] at h9
      have ha0 : (0 : Int) ≤ (ak : Int) := by omega
      have ha9 : (ak : Int) < 9 := by omega
      clear hkI hk
      by_cases hbt : (bits BinOp.and IntKind.u8 ((c : Int) / 2 ^ k) 1 == 1) = true
      · go_wp2_with fail
        refine wp_region_rels 10 [[], [], [], [], [], [], [], [], [], []] [Form.val, Form.val, Form.val, Form.val, Form.val, Form.val, Form.val, Form.val, Form.val, Form.val] (FSt w g gA (gA + 1) (gA + 1 + 1) fs (fbit c) m cap C') (by kernel_rfl) (by kernel_rfl) rfl rfl (HS.out.drew) (fun W W' h hb => h.below hb) trivial ?_
        repeat (first | apply exSpec_rel | apply exSpec_new | apply exSpec_val)
        apply relWalk_ex rfl ?o0 (fun K hK => ?n0)
        case o0 =>
          intro W hC hF
          have cA := hC.at_ k hk7
          have cW := hC.wr k hk7
          rw [hak] at cA
          rw [hwk] at cW
          go_simp
          all_goals exact ⟨Below.refl _ _, rfl⟩
        case' n0 =>
          go_simp
          refine hK _ ?_
          clear hK K
        apply relWalk_ex rfl ?o1 (fun K hK => ?n1)
        case o1 =>
          intro W hC hF
          have cA := hC.at_ k hk7
          have cW := hC.wr k hk7
          rw [hak] at cA
          rw [hwk] at cW
          go_simp
          all_goals exact ⟨Below.refl _ _, rfl⟩
        case' n1 =>
          go_simp
          refine hK _ ?_
          clear hK K
        apply relWalk_ex rfl ?o2 (fun K hK => ?n2)
        case o2 =>
          intro W hC hF
          have cA := hC.at_ k hk7
          have cW := hC.wr k hk7
          rw [hak] at cA
          rw [hwk] at cW
          go_simp
          all_goals exact ⟨Below.refl _ _, rfl⟩
        case' n2 =>
          go_simp
          refine hK _ ?_
          clear hK K
        apply relWalk_ex rfl ?o3 (fun K hK => ?n3)
        case o3 =>
          intro W hC hF
          have cA := hC.at_ k hk7
          have cW := hC.wr k hk7
          rw [hak] at cA
          rw [hwk] at cW
          go_simp
          all_goals exact ⟨Below.refl _ _, rfl⟩
        case' n3 =>
          go_simp
          refine hK _ ?_
          clear hK K
        apply relWalk_ex rfl ?o4 (fun K hK => ?n4)
        case o4 =>
          intro W hC hF
          have cA := hC.at_ k hk7
          have cW := hC.wr k hk7
          rw [hak] at cA
          rw [hwk] at cW
          go_simp
          all_goals exact ⟨Below.refl _ _, rfl⟩
        case' n4 =>
          go_simp
          refine hK _ ?_
          clear hK K
        apply relWalk_ex rfl ?o5 (fun K hK => ?n5)
        case o5 =>
          intro W hC hF
          have cA := hC.at_ k hk7
          have cW := hC.wr k hk7
          rw [hak] at cA
          rw [hwk] at cW
          go_simp
          all_goals exact ⟨Below.refl _ _, rfl⟩
        case' n5 =>
          go_simp
          refine hK _ ?_
          clear hK K
        apply relWalk_ex rfl ?o6 (fun K hK => ?n6)
        case o6 =>
          intro W hC hF
          have cA := hC.at_ k hk7
          have cW := hC.wr k hk7
          rw [hak] at cA
          rw [hwk] at cW
          go_simp
          all_goals exact ⟨Below.refl _ _, rfl⟩
        case' n6 =>
          go_simp
          refine hK _ ?_
          clear hK K
        apply relWalk_ex rfl ?o7 (fun K hK => ?n7)
        case o7 =>
          intro W hC hF
          have cA := hC.at_ k hk7
          have cW := hC.wr k hk7
          rw [hak] at cA
          rw [hwk] at cW
          go_simp
          all_goals exact ⟨Below.refl _ _, rfl⟩
        case' n7 =>
          go_simp
          refine hK _ ?_
          clear hK K
        apply relWalk_ex rfl ?o8 (fun K hK => ?n8)
        case o8 =>
          intro W hC hF
          have cA := hC.at_ k hk7
          have cW := hC.wr k hk7
          rw [hak] at cA
          rw [hwk] at cW
          go_simp
          all_goals exact ⟨Below.refl _ _, rfl⟩
        case' n8 =>
          go_simp
          refine hK _ ?_
          clear hK K
        apply relWalk_ex rfl ?o9 (fun K hK => ?n9)
        case o9 =>
          intro W hC hF
          have cA := hC.at_ k hk7
          have cW := hC.wr k hk7
          rw [hak] at cA
          rw [hwk] at cW
          go_simp
          all_goals exact ⟨Below.refl _ _, rfl⟩
        case' n9 =>
          go_simp
          refine hK _ ?_
          clear hK K
        apply relWalk_end
        intro W hC hF hU
        have cE := hC.er k hk7
        rw [hek] at cE
        have u0 := hC.row.cell_ (hC.cell ak h9)
        have y0 := hC.row.frozen (1 + ak)
        have hg1 : g ≠ gA + 1 + 1 := by omega
        have HC2 := Lib.hid hC
        clear hC hak hwk hek
        go_wp2_with fail
        go_roundw
        case rel =>
          obtain ⟨rfl, rfl, rfl, rfl⟩ := Hk.out
          exact ⟨m + 1, _, by omega, by congr 1; omega, by show _ = Value.int .i64 (wantF (fbit c) (m + 1)); rw [wantF, if_pos (show fbit c (7 - m) = true from hbt)], Lib.hid (HC2.out.set_ h8 hbt hcap hg (by omega) (by omega) (by omega))⟩
        case measure => first | (simp [intOf]; done) | (simp [intOf]; omega)
      · have hbf : (bits BinOp.and IntKind.u8 ((c : Int) / 2 ^ k) 1 == 1) = false := by simpa using hbt
        clear hbt hak hwk hek
        go_wp2_with fail
        go_roundw
        case rel =>
          obtain ⟨rfl, rfl, rfl, rfl⟩ := Hk.out
          exact ⟨m + 1, _, by omega, by congr 1; omega, by show _ = Value.int .i64 (wantF (fbit c) (m + 1)); rw [wantF, if_neg (by rw [show fbit c (7 - m) = false from hbf]; exact Bool.false_ne_true)], Lib.hid (HS.out.keep h8 hbf)⟩
        case measure => first | (simp [intOf]; done) | (simp [intOf]; omega)
    · obtain rfl : m = 8 := by omega
      have HR := Lib.hid (show StrRow wr g 1 (allF 8 (fbit c) fs) from ⟨HS.out.row.lt, fun j l hl => by
        have hj : j < 9 := by
          rcases Nat.lt_or_ge j 9 with h | h
          · exact h
          · rw [List.getElem?_eq_none (by simpa [allF] using h)] at hl; cases hl
        refine HS.out.row.cell_ ?_
        rw [HS.out.cell j hj]
        have : l = selF 8 (fbit c) fs j := by
          rcases (by omega : j = 0 ∨ j = 1 ∨ j = 2 ∨ j = 3 ∨ j = 4 ∨ j = 5 ∨ j = 6 ∨ j = 7 ∨ j = 8) with rfl | rfl | rfl | rfl | rfl | rfl | rfl | rfl | rfl <;> (cases hl; rfl)
        rw [this]⟩)
      rw [show (7 : Int) - ((8 : Nat) : Int) = -1 by decide]
      simp only [ruleV, RuleP.cells, RuleP.none] at HPx HPn
      generalize wantF (fbit c) 8 = wt at *
      by_cases hw0 : wt = 0
      · subst hw0
        go_wp2_with fail
        refine (HPa.out _ g _ HS.out.old HR.out).mono ?_
        rintro e w5 ⟨⟨x, rfl, hx⟩, hb5⟩
        obtain ⟨nm, fr, tl, mo, ⟨dk, dw, dd⟩, ⟨hs, hb⟩, sv, lt⟩ := x
        simp only [ruleV, RuleP.cells]
        clear hx
        have HX := Lib.hid (show Blk (w5.alloc (.cells #[.string ⟨nm.toArray⟩, .int .i64 fr, .int .i64 tl, .int .i64 mo, .int .i64 dk, .int .i64 dw, .int .i64 dd, .int .i64 hs, .int .i64 hb, .int .i64 sv, .string ⟨lt.toArray⟩] 29)) g 9 C' ∧ Below w.heap.size w (w5.alloc (.cells #[.string ⟨nm.toArray⟩, .int .i64 fr, .int .i64 tl, .int .i64 mo, .int .i64 dk, .int .i64 dw, .int .i64 dd, .int .i64 hs, .int .i64 hb, .int .i64 sv, .string ⟨lt.toArray⟩] 29)) from ⟨(HS.out.below hb5).row.alloc _, rbelow_alloc (HS.out.below hb5).old _⟩)
        have HSc := Lib.hid (And.intro HS.out.size HS.out.cell)
        clear HS hb5 HR HPa
        go_upto_region 19 with fail
        generalize w5.alloc (.cells #[.string ⟨nm.toArray⟩, .int .i64 fr, .int .i64 tl, .int .i64 mo, .int .i64 dk, .int .i64 dw, .int .i64 dd, .int .i64 hs, .int .i64 hb, .int .i64 sv, .string ⟨lt.toArray⟩] 29) = w6 at *
        have u3 : w6.cell? ⟨g, 4, none⟩ = some (.string ⟨(selF 8 (fbit c) fs 3).toArray⟩) := HX.out.1.cell_ (HSc.out.2 3 (by decide))
        have y3 := HX.out.1.frozen 4
        go_upto_region 20 with fail
        have HY := Lib.hid (show Blk (w6.setCell ⟨g, 4, none⟩ (.string ⟨#[120]⟩)) g 9 (C'.setIfInBounds 4 (.string ⟨#[120]⟩)) ∧ Below w.heap.size w (w6.setCell ⟨g, 4, none⟩ (.string ⟨#[120]⟩)) from ⟨HX.out.1.set_ 4 _, HX.out.2.setCell hg _⟩)
        have HYc := Lib.hid (show (C'.setIfInBounds 4 (.string ⟨#[120]⟩)).size = cap ∧ (C'.setIfInBounds 4 (.string ⟨#[120]⟩))[4]? = some (.string ⟨#[120]⟩) by refine ⟨by simp [HSc.out.1], ?_⟩; rw [Array.getElem?_setIfInBounds_self, if_pos (by rw [HSc.out.1]; omega)])
        clear HX HSc u3 y3
        generalize w6.setCell ⟨g, 4, none⟩ (.string ⟨#[120]⟩) = w7 at *
        generalize C'.setIfInBounds 4 (.string ⟨#[120]⟩) = C7 at *
        go_wp2_with fail
        refine (HPx.out _ g _ ⟨#[120]⟩ HY.out.2 (HY.out.1.cell_ HYc.out.2) (by decide)).mono ?_
        rintro e w8 ⟨rfl, hb8⟩
        have HY8 := Lib.hid (show Blk w8 g 9 C7 ∧ Below w.heap.size w w8 from ⟨HY.out.1.below hb8 HY.out.1.lt, HY.out.2.trans (hb8.mono HY.out.2.size)⟩)
        clear HY hb8
        have hcap8 : (8 : Int) ≤ (cap : Int) - 1 := by omega
        have hcap9 : 8 ≤ cap - 1 := by omega
        go_wp2_with fail
        refine (HPn.out _ _ 8 _ (by decide)).mono ?_
        rintro e w9 ⟨rfl, hb9⟩
        have HY9 := Lib.hid (show Blk w9 g 9 C7 ∧ Below w.heap.size w w9 from ⟨(HY8.out.1.alloc _).below hb9 (HY8.out.1.alloc _).lt, (rbelow_alloc HY8.out.2 _).trans (hb9.mono (rbelow_alloc HY8.out.2 _).size)⟩)
        clear HY8 hb9
        go_upto_region 22 with fail
        have HY10 := Lib.hid (show Blk (w9.alloc (.cells #[.string ⟨#[]⟩, .int .i64 0, .int .i64 0, .int .i64 0, .int .i64 0, .int .i64 0, .int .i64 0, .int .i64 0, .int .i64 0, .int .i64 0, .string ⟨#[]⟩] 29)) g 9 C7 ∧ Below w.heap.size w (w9.alloc (.cells #[.string ⟨#[]⟩, .int .i64 0, .int .i64 0, .int .i64 0, .int .i64 0, .int .i64 0, .int .i64 0, .int .i64 0, .int .i64 0, .int .i64 0, .string ⟨#[]⟩] 29)) from ⟨HY9.out.1.alloc _, rbelow_alloc HY9.out.2 _⟩)
        clear HY9
        generalize w9.alloc (.cells #[.string ⟨#[]⟩, .int .i64 0, .int .i64 0, .int .i64 0, .int .i64 0, .int .i64 0, .int .i64 0, .int .i64 0, .int .i64 0, .int .i64 0, .string ⟨#[]⟩] 29) = w10 at *
        obtain ⟨i0, hi, hz0, hz1, hz2⟩ := info_parts infoStr
        go_wp2_with (at_builtin; refine wpList_append_arg _ rfl (.tmp 96) (.tmp 97) 22 rfl 9 i0 (.string ⟨#[]⟩) 1 16 Tryz.underlying22 hi hz0 hz1 hz2 rfl (by decide) g 1 9 (cap - 1) ((C7.toList.drop 1).take 9) (by rfl) ?apl0 ?apo0 ⟨w10.heap.size, 0, none⟩ 1 1 [.string ⟨#[]⟩] (by rfl) rfl ?apn0 ?ape0 ?aps0 ?apm0 ?apb0 ?apr0 ?apg0)
        case apl0 => simp [HYc.out.1]; omega
        case ape0 => simp [Value.oneCell']
        case apm0 => unfold maxLen; omega
        case apb0 => omega
        case apo0 =>
          intro j u hj
          rw [List.getElem?_take] at hj
          split at hj
          · rw [List.getElem?_drop] at hj
            exact (HY10.out.1.alloc _).cell_ (by rw [← Array.getElem?_toList]; exact hj)
          · cases hj
        case apn0 =>
          intro j u hj
          match j, hj with
          | 0, hj => cases hj; exact (Blk.new w10 9 #[.string ⟨#[]⟩]).cell_ rfl
        case aps0 =>
          intro hs j hj
          have hj0 : j = 0 := by simpa using hj
          subst hj0
          refine ⟨?_, (HY10.out.1.alloc _).frozen _⟩
          rw [(HY10.out.1.alloc _).cell]
          rw [Array.getElem?_eq_getElem (by rw [HYc.out.1]; omega)]
          rfl
        case apr0 =>
          intro hroom
          have HBr := Lib.hid (show Below w.heap.size w ((w10.alloc (.cells #[.string ⟨#[]⟩] 9)).setCells g (1 + 9 * 1) [.string ⟨#[]⟩]) from below_sets hg _ _ _ (rbelow_alloc HY10.out.2 _))
          generalize (w10.alloc (.cells #[.string ⟨#[]⟩] 9)).setCells g (1 + 9 * 1) [.string ⟨#[]⟩] = wz at *
          go_wp2_with fail
          refine (HPn.out _ _ 10 _ (by decide)).mono ?_
          rintro e w11 ⟨rfl, hb11⟩
          have HZ := Lib.hid (show Below w.heap.size w w11 from Below.trans HBr.out (hb11.mono (Below.size HBr.out)))
          clear hb11
          go_wp2_with fail
          refine (HW.out _ (rbelow_alloc HZ.out _)).mono ?_
          rintro e w12 ⟨rfl, hb12⟩
          have HZ2 := Lib.hid (show Below w.heap.size w w12 from (rbelow_alloc HZ.out _).trans (hb12.mono (rbelow_alloc HZ.out _).size))
          clear hb12 HZ
          go_wp2_with fail
          go_ret
          exact ⟨rfl, HZ2.out⟩
        case apg0 =>
          intro hgrow v' w' hown hgr
          obtain ⟨A, c2, rfl, _, _⟩ := own_slice hown
          have HBr := Lib.hid (show Below w.heap.size w w' from (rbelow_alloc HY10.out.2 _).grown hgr (rbelow_alloc HY10.out.2 _).size (fun k hk => by cases hk))
          clear hown hgr
          go_wp2_with fail
          refine (HPn.out _ _ 10 _ (by decide)).mono ?_
          rintro e w11 ⟨rfl, hb11⟩
          have HZ := Lib.hid (show Below w.heap.size w w11 from Below.trans HBr.out (hb11.mono (Below.size HBr.out)))
          clear hb11
          go_wp2_with fail
          refine (HW.out _ (rbelow_alloc HZ.out _)).mono ?_
          rintro e w12 ⟨rfl, hb12⟩
          have HZ2 := Lib.hid (show Below w.heap.size w w12 from (rbelow_alloc HZ.out _).trans (hb12.mono (rbelow_alloc HZ.out _).size))
          clear hb12 HZ
          go_wp2_with fail
          go_ret
          exact ⟨rfl, HZ2.out⟩
      · have hwb : (wt != 0) = true := by rw [bne_iff_ne]; exact hw0
        go_wp2_with fail
        refine (HPa.out _ g _ HS.out.old HR.out).mono ?_
        rintro e w5 ⟨⟨x, rfl, hx⟩, hb5⟩
        obtain rfl := hx hw0
        simp only [ruleV, RuleP.cells, RuleP.none]
        have HX := Lib.hid (show Blk (w5.alloc (.cells #[.string ⟨#[]⟩, .int .i64 0, .int .i64 0, .int .i64 0, .int .i64 0, .int .i64 0, .int .i64 0, .int .i64 0, .int .i64 0, .int .i64 0, .string ⟨#[]⟩] 29)) g 9 C' ∧ Below w.heap.size w (w5.alloc (.cells #[.string ⟨#[]⟩, .int .i64 0, .int .i64 0, .int .i64 0, .int .i64 0, .int .i64 0, .int .i64 0, .int .i64 0, .int .i64 0, .int .i64 0, .string ⟨#[]⟩] 29)) from ⟨(HS.out.below hb5).row.alloc _, rbelow_alloc (HS.out.below hb5).old _⟩)
        have HSc := Lib.hid (And.intro HS.out.size HS.out.cell)
        clear HS hb5 HR HPa
        go_upto_region 19 with fail
        generalize w5.alloc (.cells #[.string ⟨#[]⟩, .int .i64 0, .int .i64 0, .int .i64 0, .int .i64 0, .int .i64 0, .int .i64 0, .int .i64 0, .int .i64 0, .int .i64 0, .string ⟨#[]⟩] 29) = w6 at *
        have u3 : w6.cell? ⟨g, 4, none⟩ = some (.string ⟨(selF 8 (fbit c) fs 3).toArray⟩) := HX.out.1.cell_ (HSc.out.2 3 (by decide))
        have y3 := HX.out.1.frozen 4
        go_upto_region 20 with fail
        have HY := Lib.hid (show Blk (w6.setCell ⟨g, 4, none⟩ (.string ⟨#[120]⟩)) g 9 (C'.setIfInBounds 4 (.string ⟨#[120]⟩)) ∧ Below w.heap.size w (w6.setCell ⟨g, 4, none⟩ (.string ⟨#[120]⟩)) from ⟨HX.out.1.set_ 4 _, HX.out.2.setCell hg _⟩)
        have HYc := Lib.hid (show (C'.setIfInBounds 4 (.string ⟨#[120]⟩)).size = cap ∧ (C'.setIfInBounds 4 (.string ⟨#[120]⟩))[4]? = some (.string ⟨#[120]⟩) by refine ⟨by simp [HSc.out.1], ?_⟩; rw [Array.getElem?_setIfInBounds_self, if_pos (by rw [HSc.out.1]; omega)])
        clear HX HSc u3 y3
        generalize w6.setCell ⟨g, 4, none⟩ (.string ⟨#[120]⟩) = w7 at *
        generalize C'.setIfInBounds 4 (.string ⟨#[120]⟩) = C7 at *
        go_wp2_with fail
        refine (HPx.out _ g _ ⟨#[120]⟩ HY.out.2 (HY.out.1.cell_ HYc.out.2) (by decide)).mono ?_
        rintro e w8 ⟨rfl, hb8⟩
        have HY8 := Lib.hid (show Blk w8 g 9 C7 ∧ Below w.heap.size w w8 from ⟨HY.out.1.below hb8 HY.out.1.lt, HY.out.2.trans (hb8.mono HY.out.2.size)⟩)
        clear HY hb8
        have hcap8 : (8 : Int) ≤ (cap : Int) - 1 := by omega
        have hcap9 : 8 ≤ cap - 1 := by omega
        go_wp2_with fail
        refine (HPn.out _ _ 8 _ (by decide)).mono ?_
        rintro e w9 ⟨rfl, hb9⟩
        have HY9 := Lib.hid (show Blk w9 g 9 C7 ∧ Below w.heap.size w w9 from ⟨(HY8.out.1.alloc _).below hb9 (HY8.out.1.alloc _).lt, (rbelow_alloc HY8.out.2 _).trans (hb9.mono (rbelow_alloc HY8.out.2 _).size)⟩)
        clear HY8 hb9
        go_upto_region 22 with fail
        have HY10 := Lib.hid (show Blk (w9.alloc (.cells #[.string ⟨#[]⟩, .int .i64 0, .int .i64 0, .int .i64 0, .int .i64 0, .int .i64 0, .int .i64 0, .int .i64 0, .int .i64 0, .int .i64 0, .string ⟨#[]⟩] 29)) g 9 C7 ∧ Below w.heap.size w (w9.alloc (.cells #[.string ⟨#[]⟩, .int .i64 0, .int .i64 0, .int .i64 0, .int .i64 0, .int .i64 0, .int .i64 0, .int .i64 0, .int .i64 0, .int .i64 0, .string ⟨#[]⟩] 29)) from ⟨HY9.out.1.alloc _, rbelow_alloc HY9.out.2 _⟩)
        clear HY9
        generalize w9.alloc (.cells #[.string ⟨#[]⟩, .int .i64 0, .int .i64 0, .int .i64 0, .int .i64 0, .int .i64 0, .int .i64 0, .int .i64 0, .int .i64 0, .int .i64 0, .string ⟨#[]⟩] 29) = w10 at *
        obtain ⟨i0, hi, hz0, hz1, hz2⟩ := info_parts infoStr
        go_wp2_with (at_builtin; refine wpList_append_arg _ rfl (.tmp 96) (.tmp 97) 22 rfl 9 i0 (.string ⟨#[]⟩) 1 16 Tryz.underlying22 hi hz0 hz1 hz2 rfl (by decide) g 1 9 (cap - 1) ((C7.toList.drop 1).take 9) (by rfl) ?apl1 ?apo1 ⟨w10.heap.size, 0, none⟩ 1 1 [.string ⟨#[]⟩] (by rfl) rfl ?apn1 ?ape1 ?aps1 ?apm1 ?apb1 ?apr1 ?apg1)
        case apl1 => simp [HYc.out.1]; omega
        case ape1 => simp [Value.oneCell']
        case apm1 => unfold maxLen; omega
        case apb1 => omega
        case apo1 =>
          intro j u hj
          rw [List.getElem?_take] at hj
          split at hj
          · rw [List.getElem?_drop] at hj
            exact (HY10.out.1.alloc _).cell_ (by rw [← Array.getElem?_toList]; exact hj)
          · cases hj
        case apn1 =>
          intro j u hj
          match j, hj with
          | 0, hj => cases hj; exact (Blk.new w10 9 #[.string ⟨#[]⟩]).cell_ rfl
        case aps1 =>
          intro hs j hj
          have hj0 : j = 0 := by simpa using hj
          subst hj0
          refine ⟨?_, (HY10.out.1.alloc _).frozen _⟩
          rw [(HY10.out.1.alloc _).cell]
          rw [Array.getElem?_eq_getElem (by rw [HYc.out.1]; omega)]
          rfl
        case apr1 =>
          intro hroom
          have HBr := Lib.hid (show Below w.heap.size w ((w10.alloc (.cells #[.string ⟨#[]⟩] 9)).setCells g (1 + 9 * 1) [.string ⟨#[]⟩]) from below_sets hg _ _ _ (rbelow_alloc HY10.out.2 _))
          generalize (w10.alloc (.cells #[.string ⟨#[]⟩] 9)).setCells g (1 + 9 * 1) [.string ⟨#[]⟩] = wz at *
          go_wp2_with fail
          refine (HPn.out _ _ 10 _ (by decide)).mono ?_
          rintro e w11 ⟨rfl, hb11⟩
          have HZ := Lib.hid (show Below w.heap.size w w11 from Below.trans HBr.out (hb11.mono (Below.size HBr.out)))
          clear hb11
          go_wp2_with fail
          refine (HW.out _ (rbelow_alloc HZ.out _)).mono ?_
          rintro e w12 ⟨rfl, hb12⟩
          have HZ2 := Lib.hid (show Below w.heap.size w w12 from (rbelow_alloc HZ.out _).trans (hb12.mono (rbelow_alloc HZ.out _).size))
          clear hb12 HZ
          go_wp2_with fail
          go_ret
          exact ⟨rfl, HZ2.out⟩
        case apg1 =>
          intro hgrow v' w' hown hgr
          obtain ⟨A, c2, rfl, _, _⟩ := own_slice hown
          have HBr := Lib.hid (show Below w.heap.size w w' from (rbelow_alloc HY10.out.2 _).grown hgr (rbelow_alloc HY10.out.2 _).size (fun k hk => by cases hk))
          clear hown hgr
          go_wp2_with fail
          refine (HPn.out _ _ 10 _ (by decide)).mono ?_
          rintro e w11 ⟨rfl, hb11⟩
          have HZ := Lib.hid (show Below w.heap.size w w11 from Below.trans HBr.out (hb11.mono (Below.size HBr.out)))
          clear hb11
          go_wp2_with fail
          refine (HW.out _ (rbelow_alloc HZ.out _)).mono ?_
          rintro e w12 ⟨rfl, hb12⟩
          have HZ2 := Lib.hid (show Below w.heap.size w w12 from (rbelow_alloc HZ.out _).trans (hb12.mono (rbelow_alloc HZ.out _).size))
          clear hb12 HZ
          go_wp2_with fail
          go_ret
          exact ⟨rfl, HZ2.out⟩

theorem words_cells (r : RuleP) (h : RuleRight r) (w : World) : Calls Tryz.prog 16 #[.string ⟨(ruleT r).toArray⟩] w fun e w' => (∃ g cap C, e = .returned (.slice (some ⟨g, 0, none⟩) 10 cap) ∧ 10 ≤ cap ∧ cap ≤ maxLen ∧ w.heap.size ≤ g ∧ Blk w' g 9 C ∧ C.size = cap ∧ ∀ j, j < 10 → C[j]? = some (.string ⟨((ruleB :: ruleFs r).getD j []).toArray⟩)) ∧ Below w.heap.size w w' :=
  (words_row ⟨(ruleT r).toArray⟩ w (by have := ruleT_len h; show (ruleT r).length ≤ 1048576; omega)).mono fun e w' ⟨⟨g, cap, he, hcap, hg, hr, ho⟩, hb⟩ => by
    rw [words_rule h] at he hcap hr ho
    refine ⟨?_, hb⟩
    rcases ho.2 with ⟨h1, _⟩ | ⟨g', cap', cur, h1, h2, h3, h4, h5, h6, h7⟩
    · cases h1
    · cases h1
      refine ⟨g, cap, cur, he, hcap, h5, hg, h3, by simpa using h6, fun j hj => ?_⟩
      have hl : (ruleB :: ruleFs r)[j]? = some ((ruleB :: ruleFs r).getD j []) := by
        rw [List.getD_eq_getElem?_getD, List.getElem?_eq_getElem (by simpa [ruleFs] using hj)]; rfl
      have hc := hr.at_ j _ hl
      rw [Nat.zero_add] at hc
      exact (Blk.cell h3 j).symm.trans hc

theorem rfirst_any (d : DraftP) (hd : d.Ok) (c : Nat) (hc : c < 256) (w : World) (hT : RTabs w) :
    Calls Tryz.prog 8 #[.agg d.cells, .int .u8 (c : Int)] w fun e w' => e = .returned (.bool true) ∧ Below w.heap.size w w' := by
  have HM := fun W => d.made_any hd W
  have hr := d.right
  have HT : ∀ W, Below w.heap.size w W → RTabs W := fun W hW => hT.below hW
  have hD : (Tryz.prog.info? 41).map (·.size) = some d.cells.size := infoDraft
  generalize d.made = r at *
  refine rfirst_walk d.cells (ruleV r) ⟨(ruleT r).toArray⟩ (ruleFs r) c w hD hc (Lib.hid HM) (Lib.hid fun W hW => print_right r hr W (HT W hW)) (Lib.hid fun W hW => ?_) (Lib.hid fun W g cap hW hrow => ?_) (Lib.hid fun W g cap s hW hcell hs => ?_) (Lib.hid fun W A n cap hn => ruleParse_n A n cap W hn) (Lib.hid fun W hW => rworks_any W (HT W hW))
  · refine (words_cells r hr W).mono fun e w' ⟨⟨g, cap, C, h1, h2, h3, h4, h5, h6, h7⟩, hb⟩ => ⟨⟨g, cap, C, h1, h2, h3, Nat.le_trans hW.size h4, Lib.hid ⟨h5, h6, fun j hj => ?_⟩⟩, hb⟩
    have := h7 (1 + j) (by omega)
    rw [this, Nat.add_comm 1 j]
    rfl
  · have hp := ruleParse_any g 1 9 cap (allF 8 (fbit c) (ruleFs r)) W (HT W hW) hrow rfl (fun l hl => by
      simp only [allF, List.mem_cons, List.not_mem_nil, or_false] at hl
      rcases hl with rfl | rfl | rfl | rfl | rfl | rfl | rfl | rfl | rfl <;> (have := selF_len hr (fbit c) 8; exact Nat.le_trans (this _) (by decide)))
    refine hp.mono fun e w' ⟨he, hb⟩ => ⟨⟨_, he.trans (by rw [first_law hr]), fun h0 => rule_none (by rw [first_law hr]; exact h0)⟩, hb⟩
  · exact ruleParse_x g 1 cap s W (block_lt_of_cell hcell) hcell hs
end Go.Proofs.YtgfnnmdngckmmaaGreatDoor
