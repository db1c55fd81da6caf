/-
  ruleline.Parse of whatever row of fields; fails and works of the law.
-/
import Derived.Test.YtgfnnmdngckmmaaGreatDoorRuleWords
set_option linter.unusedVariables false
namespace Go.Proofs.YtgfnnmdngckmmaaGreatDoor
open Go.RowKit

set_option maxRecDepth 100000 in
set_option maxHeartbeats 1000000 in
theorem ruleParse_x (bl ol c : Nat) (s3 : ByteArray) (w : World) (hbl : bl < w.heap.size) (hc : w.cell? ⟨bl, ol + 3, none⟩ = some (.string s3)) (h3 : s3.data.toList ≠ [45]) :
    Calls Tryz.prog 11 #[.slice (some ⟨bl, ol, none⟩) 9 c] w fun e w' => e = .returned (.tuple #[ruleV RuleP.none, .int .i64 5]) ∧ Below w.heap.size w w' := by
  have hne : (s3.toList == [45]) = false := str_ne h3
  clear h3
  go_enter Tryz.func11, Tryz.ntmps11
  go_wp2_with fail
  refine bodyPost_ret (by simp [results, Tryz.results11, go_sem]; rfl) rfl ⟨rfl, by go_grown⟩

/-- a row of strings in memory -/
structure StrRow (w : World) (b o : Nat) (ls : List (List UInt8)) : Prop where
  lt : b < w.heap.size
  at_ : ∀ (j : Nat) l, ls[j]? = some l → w.cell? ⟨b, o + j, none⟩ = some (.string ⟨l.toArray⟩)
theorem StrRow.below {w w' : World} {b o : Nat} {ls : List (List UInt8)} (h : StrRow w b o ls) (hb : Below w.heap.size w w') : StrRow w' b o ls :=
  ⟨Nat.lt_of_lt_of_le h.lt hb.size, fun j l hl => (hb.cell (p := ⟨b, o + j, none⟩) h.lt).trans (h.at_ j l hl)⟩
theorem StrRow.tail {w : World} {b o : Nat} {a : List UInt8} {ls : List (List UInt8)} (h : StrRow w b o (a :: ls)) : StrRow w b (o + 1) ls :=
  ⟨h.lt, fun j l hl => by have := h.at_ (j + 1) l (by simpa using hl); rw [show o + 1 + j = o + (j + 1) by omega]; exact this⟩
theorem StrRow.own {w : World} {base g n cap : Nat} {ls : List (List UInt8)} (h : w.ownsRow base 9 1 (.slice (some ⟨g, 0, none⟩) n cap) n (strV ls)) (hg : g < w.heap.size) : StrRow w g 0 ls :=
  ⟨hg, fun j l hl => by
    have hj : j < ls.length := by
      rcases Nat.lt_or_ge j ls.length with h | h
      · exact h
      · rw [List.getElem?_eq_none h] at hl; cases hl
    have hn : ls.length = n := by have := h.1; simpa [strV] using this
    rw [Nat.zero_add, h.cellAt j (by omega), strV, List.getElem?_map, hl]; rfl⟩

theorem ruleR_n {ls : List (List UInt8)} (h : ls.length ≠ 9) : ruleR ls = (RuleP.none, 5) := by
  unfold ruleR
  split
  · exact absurd rfl h
  · rfl
theorem nine {ls : List (List UInt8)} (h : ls.length = 9) : ∃ a0 a1 a2 a3 a4 a5 a6 a7 a8, ls = [a0, a1, a2, a3, a4, a5, a6, a7, a8] := by
  match ls, h with
  | [a0, a1, a2, a3, a4, a5, a6, a7, a8], _ => exact ⟨_, _, _, _, _, _, _, _, _, rfl⟩

theorem ruleParse_any (b o n c : Nat) (ls : List (List UInt8)) (w : World) (hT : RTabs w) (hr : StrRow w b o ls) (hn : ls.length = n) (hl : ∀ l ∈ ls, l.length ≤ 1048576) :
    Calls Tryz.prog 11 #[.slice (some ⟨b, o, none⟩) n c] w fun e w' => e = .returned (.tuple #[ruleV (ruleR ls).1, .int .i64 (ruleR ls).2]) ∧ Below w.heap.size w w' := by
  by_cases h9 : n = 9
  · subst h9
    obtain ⟨a0, a1, a2, a3, a4, a5, a6, a7, a8, rfl⟩ := nine hn
    by_cases h3 : a3 = [45]
    · have := ruleParse_9 b o c ⟨a0.toArray⟩ ⟨a1.toArray⟩ ⟨a2.toArray⟩ ⟨a3.toArray⟩ ⟨a4.toArray⟩ ⟨a5.toArray⟩ ⟨a6.toArray⟩ ⟨a7.toArray⟩ ⟨a8.toArray⟩ w hT hr.lt (hl a0 (by simp)) (hl a1 (by simp)) (hl a2 (by simp)) (hl a4 (by simp)) (hl a5 (by simp)) (hl a6 (by simp)) (hl a7 (by simp)) (hl a8 (by simp)) (by
        intro j s hj
        match j, hj with
        | 0, hj => cases hj; exact hr.at_ 0 _ rfl
        | 1, hj => cases hj; exact hr.at_ 1 _ rfl
        | 2, hj => cases hj; exact hr.at_ 2 _ rfl
        | 3, hj => cases hj; exact hr.at_ 3 _ rfl
        | 4, hj => cases hj; exact hr.at_ 4 _ rfl
        | 5, hj => cases hj; exact hr.at_ 5 _ rfl
        | 6, hj => cases hj; exact hr.at_ 6 _ rfl
        | 7, hj => cases hj; exact hr.at_ 7 _ rfl
        | 8, hj => cases hj; exact hr.at_ 8 _ rfl) h3
      exact this
    · have hR : ruleR [a0, a1, a2, a3, a4, a5, a6, a7, a8] = (RuleP.none, 5) := if_neg h3
      rw [hR]
      exact ruleParse_x b o c ⟨a3.toArray⟩ w hr.lt (hr.at_ 3 _ rfl) h3
  · rw [ruleR_n (by omega)]
    exact ruleParse_n _ n c w h9

theorem wordsR_pos (l : List UInt8) : 0 < (wordsR l).length := by simp [wordsR]
theorem words_small : ∀ (l : List UInt8) (d : List (List UInt8)) (cur : List UInt8) (N : Nat), (∀ x ∈ d, x.length ≤ N) → cur.length + l.length ≤ N → (∀ x ∈ (l.foldl wStep (d, cur)).1, x.length ≤ N)
  | [], d, cur, N, h, h2 => h
  | c :: l, d, cur, N, h, h2 => by
    rw [List.foldl_cons]
    by_cases hc : c = 32
    · rw [show wStep (d, cur) c = (d ++ [cur], []) from if_pos hc]
      refine words_small l _ _ N (fun x hx => ?_) (by simp at h2 ⊢; omega)
      rcases List.mem_append.1 hx with hx | hx
      · exact h x hx
      · simp at hx; subst hx; simp at h2; omega
    · rw [show wStep (d, cur) c = (d, cur ++ [c]) from if_neg hc]
      exact words_small l _ _ N h (by simp at h2 ⊢; omega)
theorem words_le (s : List UInt8) : ∀ x ∈ wordsR s, x.length ≤ s.length := by
  intro x hx
  rcases List.mem_append.1 hx with hx | hx
  · exact words_small s [] [] s.length (by simp) (by simp) x hx
  · simp at hx; subst hx; exact words_cur s
/-- words, in the form that the walks of the laws take -/
theorem words_row (s : ByteArray) (w : World) (hs : s.size ≤ 1048576) :
    Calls Tryz.prog 16 #[.string s] w fun e w' => (∃ g cap, e = .returned (.slice (some ⟨g, 0, none⟩) (wordsR s.data.toList).length cap) ∧ (wordsR s.data.toList).length ≤ cap ∧ w.heap.size ≤ g ∧ StrRow w' g 0 (wordsR s.data.toList) ∧ w'.ownsRow w.heap.size 9 1 (.slice (some ⟨g, 0, none⟩) (wordsR s.data.toList).length cap) (wordsR s.data.toList).length (strV (wordsR s.data.toList))) ∧ Below w.heap.size w w' :=
  (words_any s w hs).mono fun e w' ⟨⟨v, he, ho⟩, hb⟩ => by
    refine ⟨?_, hb⟩
    rcases ho.2 with ⟨rfl, h0⟩ | ⟨g, cap, cur, rfl, hg, hh, hnc, _⟩
    · exact absurd h0 (by have := wordsR_pos s.data.toList; omega)
    · exact ⟨g, cap, he, hnc, hg, StrRow.own ho (Array.getElem?_eq_some_iff.1 hh).1, ho⟩

set_option maxRecDepth 100000 in
set_option maxHeartbeats 1000000 in
theorem fails_yes (s : ByteArray) (x : Int) (w : World) (hT : RTabs w) (hs : s.size ≤ 1048576) (hR : ruleR (wordsR s.data.toList) = (RuleP.none, x)) :
    Calls Tryz.prog 18 #[.string s, .int .i64 x] w fun e w' => e = .returned (.bool true) ∧ Below w.heap.size w w' := by
  have HW := Lib.hid (words_row s w hs)
  have HP := Lib.hid (fun b n c W hW hr hn => ruleParse_any b 0 n c (wordsR s.data.toList) W hW hr hn fun l hl => Nat.le_trans (words_le _ l hl) hs)
  simp only [hR] at HP
  have HT := Lib.hid (fun W (hW : Below w.heap.size w W) => hT.below hW)
  clear hT hR
  simp only [ruleV, RuleP.cells, RuleP.none] at HP
  go_enter Tryz.func18, Tryz.ntmps18
  go_wp2_with fail
  refine HW.out.mono ?_
  rintro e w1 ⟨⟨g, cap, rfl, hcap, hg, hr, ho⟩, hb1⟩
  go_wp2_with fail
  refine (HP.out g _ cap w1 (HT.out _ hb1) hr rfl).mono ?_
  rintro e w2 ⟨rfl, hb2⟩
  have HB := Lib.hid (hb1.trans (hb2.mono hb1.size))
  clear hb1 hb2 hr ho hg hcap
  go_wp2_with fail
  go_ret
  exact ⟨rfl, HB.out.alloc HB.out.size _⟩

def usP : RuleP := ⟨[85, 83], 1918, 1918, 3, (2, 0, 0), (7200, 0), 3600, [68]⟩
def eireP : RuleP := ⟨[69, 105, 114, 101], 1972, 1048576, 3, (3, 0, 15), (7200, 2), 0, []⟩
def eireS : List UInt8 := [69, 105, 114, 101, 32, 49, 57, 55, 50, 32, 109, 97, 120, 32, 45, 32, 77, 97, 114, 32, 83, 117, 110, 62, 61, 49, 53, 32, 50, 58, 48, 48, 117, 32, 48, 32, 45]
def usS : List UInt8 := [85, 83, 32, 49, 57, 49, 56, 32, 111, 32, 45, 32, 109, 97, 114, 99, 104, 32, 108, 97, 115, 116, 83, 117, 110, 32, 50, 58, 48, 48, 32, 49, 58, 48, 48, 32, 68]
def usL : List UInt8 := [82, 117, 108, 101, 32, 85, 83, 32, 49, 57, 49, 56, 32, 111, 110, 108, 121, 32, 45, 32, 77, 97, 114, 32, 108, 97, 115, 116, 83, 117, 110, 32, 50, 58, 48, 48, 32, 49, 58, 48, 48, 32, 68]
theorem eire_is : ruleR (wordsR eireS) = (eireP, 0) := by decide +kernel
theorem us_is : ruleR (wordsR usS) = (usP, 0) := by decide +kernel
theorem us_line : rulePrintR usP = (usL, 0) := by decide +kernel
theorem us_bad : rulePrintR { usP with frm := 1849 } = ([], 2) := by decide +kernel
theorem us_other : rulePrintR { usP with lett := [45] } = ([], 2) := by decide +kernel
end Go.Proofs.YtgfnnmdngckmmaaGreatDoor
