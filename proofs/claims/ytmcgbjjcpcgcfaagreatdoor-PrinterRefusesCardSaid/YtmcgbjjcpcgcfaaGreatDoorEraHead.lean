/-
  Eras as plain data: what is read out of fields, what is printed; what is printed is read again.
  Eras as plain data: fields left out, fields that are wrong, eras without a line.
  Small functions of eraline: must, need, named, letter, written, year: what each returns, or with what it panics.
  eraline.written and eraline.year: what each returns, or with what it panics.
  eraline.year: what it returns, or with what it panics.
  eraline.caught: the deferred closure in both modes; caught over a closure that returns or panics.
  eraline.amount, first, last: what each returns, or with what it panics.
  eraline.end: what it returns, or with what it panics.
-/
import Derived.Test.YtmcgbjjcpcgcfaaGreatDoorOffAll
import Derived.Lib.Split
import Derived.Test.YtmcgbjjcpcgcfaaGreatDoorShelf3
import Derived.Recover
import Derived.Defers
import Derived.Outline
set_option linter.unusedVariables false
namespace Go.Proofs.YtmcgbjjcpcgcfaaGreatDoor
open Go.RowKit

structure UntilP where
  is : Bool
  year : Int
  mon : Int
  day : Int × Int × Int
  hour : Int × Int
structure EraP where
  off : Int
  kind : Int
  save : Int
  set : List UInt8
  fmt : List UInt8
  til : UntilP
def UntilP.none : UntilP := ⟨false, 0, 0, (0, 0, 0), (0, 0)⟩
def EraP.none : EraP := ⟨0, 0, 0, [], [], UntilP.none⟩
def UntilP.cells (u : UntilP) : List Value := [.bool u.is, .int .i64 u.year, .int .i64 u.mon, .int .i64 u.day.1, .int .i64 u.day.2.1, .int .i64 u.day.2.2, .int .i64 u.hour.1, .int .i64 u.hour.2]
def EraP.cells (e : EraP) : Array Value := #[.int .i64 e.off, .int .i64 e.kind, .int .i64 e.save, .string ⟨e.set.toArray⟩, .string ⟨e.fmt.toArray⟩, .bool e.til.is, .int .i64 e.til.year, .int .i64 e.til.mon, .int .i64 e.til.day.1, .int .i64 e.til.day.2.1, .int .i64 e.til.day.2.2, .int .i64 e.til.hour.1, .int .i64 e.til.hour.2]
def UntilP.arr (u : UntilP) : Array Value := #[.bool u.is, .int .i64 u.year, .int .i64 u.mon, .int .i64 u.day.1, .int .i64 u.day.2.1, .int .i64 u.day.2.2, .int .i64 u.hour.1, .int .i64 u.hour.2]
/-- can a FORMAT be written -/
def fmtC (c : UInt8) : Bool := decide (33 ≤ c.toNat ∧ c.toNat ≤ 126 ∧ c.toNat ≠ 34 ∧ c.toNat ≠ 35)
def fmtB (l : List UInt8) : Bool := decide (1 ≤ l.length ∧ l.length ≤ 20) && l.all fmtC
/-- does a string begin with a letter -/
def headB (l : List UInt8) : Bool := ofB 1 4 1 (l.take 1)
/-- the field RULES: kind, save, set, and the error -/
def rulesR (l : List UInt8) : (Int × Int × List UInt8) × Int :=
  if l = [45] then ((0, 0, []), 0)
  else if headB l = true then (if setB l = true then ((2, 0, l), 0) else ((0, 0, []), 9))
  else if (offParseR l).2 = 0 then ((1, (offParseR l).1, []), 0) else ((0, 0, []), (offParseR l).2)
/-- the end of an era out of its fields, YEAR first; the error -/
def endR_ (l : List (List UInt8)) : UntilP × Int :=
  if (yearR (l.getD 0 [])).2 ≠ 0 then (UntilP.none, (yearR (l.getD 0 [])).2)
  else if 1 < l.length ∧ (wordR monthL 1 (l.getD 1 [])).2 ≠ 0 then (UntilP.none, (wordR monthL 1 (l.getD 1 [])).2)
  else if 2 < l.length ∧ (parseR (l.getD 2 [])).2 ≠ 0 then (UntilP.none, (parseR (l.getD 2 [])).2)
  else if 3 < l.length ∧ (clockR (l.getD 3 [])).2 ≠ 0 then (UntilP.none, (clockR (l.getD 3 [])).2)
  else (⟨true, (yearR (l.getD 0 [])).1, if 1 < l.length then (wordR monthL 1 (l.getD 1 [])).1 else 1, if 2 < l.length then (parseR (l.getD 2 [])).1 else (1, 0, 1), if 3 < l.length then (clockR (l.getD 3 [])).1 else (0, 0)⟩, 0)
/-- the era out of its fields, and the error -/
def eraR (l : List (List UInt8)) : EraP × Int :=
  if l.length < 3 ∨ 7 < l.length then (EraP.none, 5)
  else if (offParseR (l.getD 0 [])).2 ≠ 0 then (EraP.none, (offParseR (l.getD 0 [])).2)
  else if (rulesR (l.getD 1 [])).2 ≠ 0 then (EraP.none, (rulesR (l.getD 1 [])).2)
  else if fmtB (l.getD 2 []) = false then (EraP.none, 15)
  else if l.length = 3 then (⟨(offParseR (l.getD 0 [])).1, (rulesR (l.getD 1 [])).1.1, (rulesR (l.getD 1 [])).1.2.1, (rulesR (l.getD 1 [])).1.2.2, l.getD 2 [], UntilP.none⟩, 0)
  else if (endR_ (l.drop 3)).2 ≠ 0 then (EraP.none, (endR_ (l.drop 3)).2)
  else (⟨(offParseR (l.getD 0 [])).1, (rulesR (l.getD 1 [])).1.1, (rulesR (l.getD 1 [])).1.2.1, (rulesR (l.getD 1 [])).1.2.2, l.getD 2 [], (endR_ (l.drop 3)).1⟩, 0)
/-- how many fields stand behind the year -/
def lastN (u : UntilP) : Nat := if u.hour ≠ (0, 0) then 3 else if u.day ≠ (1, 0, 1) then 2 else if u.mon ≠ 1 then 1 else 0
def untilFs (u : UntilP) : List (List UInt8) := if u.is = false then [] else
  [Lib.itoa u.year] ++ (if 1 ≤ lastN u then [monthT u.mon] else []) ++ (if 2 ≤ lastN u then [dayText u.day.1 u.day.2.1 u.day.2.2] else []) ++ (if 3 ≤ lastN u then [clockT u.hour.1 u.hour.2] else [])
def untilOk (u : UntilP) : Bool := if u.is = false then decide (u.year = 0 ∧ u.mon = 0 ∧ u.day = (0, 0, 0) ∧ u.hour = (0, 0)) else namedB u.year && decide (1 ≤ u.mon ∧ u.mon ≤ 12) && rightDay u.day.1 u.day.2.1 u.day.2.2 && clockOk u.hour.1 u.hour.2
def eraOk (e : EraP) : Bool := decide (-604799 ≤ e.off ∧ e.off ≤ 604799) && decide (0 ≤ e.kind ∧ e.kind ≤ 2) && (decide (e.kind = 1) || decide (e.save = 0)) && (decide (e.kind = 2) == setB e.set) && (decide (e.kind = 2) || decide (e.set = [])) && fmtB e.fmt && (decide (e.kind ≠ 1) || decide (-604799 ≤ e.save ∧ e.save ≤ 604799)) && untilOk e.til
def byT (e : EraP) : List UInt8 := if e.kind = 1 then offTx e.save else if e.kind = 2 then e.set else [45]
def eraFs (e : EraP) : List (List UInt8) := [offTx e.off, byT e, e.fmt] ++ untilFs e.til
def eraT (e : EraP) : List UInt8 := joinS (eraFs e)
def eraPrintR (e : EraP) : List UInt8 × Int := if eraOk e = true then (eraT e, 0) else ([], 2)

structure UntilRight (u : UntilP) : Prop where
  no : u.is = false → u = UntilP.none
  year : u.is = true → namedB u.year = true
  mon : u.is = true → 1 ≤ u.mon ∧ u.mon ≤ 12
  day : u.is = true → rightDay u.day.1 u.day.2.1 u.day.2.2 = true
  hour : u.is = true → clockOk u.hour.1 u.hour.2 = true
structure EraRight (e : EraP) : Prop where
  off : -604799 ≤ e.off ∧ e.off ≤ 604799
  kind : 0 ≤ e.kind ∧ e.kind ≤ 2
  save0 : e.kind ≠ 1 → e.save = 0
  save1 : e.kind = 1 → -604799 ≤ e.save ∧ e.save ≤ 604799
  set2 : e.kind = 2 → setB e.set = true
  set0 : e.kind ≠ 2 → e.set = []
  fmt : fmtB e.fmt = true
  til : UntilRight e.til
theorem untilOk_iff (u : UntilP) : untilOk u = true ↔ UntilRight u := by
  obtain ⟨is, y, m, ⟨d1, d2, d3⟩, ⟨h1, h2⟩⟩ := u
  cases is
  · simp only [untilOk, if_true, decide_eq_true_eq]
    constructor
    · rintro ⟨rfl, rfl, hd, hh⟩
      cases hd; cases hh
      exact ⟨fun _ => rfl, (fun h => by cases h), (fun h => by cases h), (fun h => by cases h), (fun h => by cases h)⟩
    · intro h
      have := h.no rfl
      cases this
      exact ⟨rfl, rfl, rfl, rfl⟩
  · simp only [untilOk, Bool.and_eq_true, decide_eq_true_eq, Bool.true_eq_false, if_false]
    constructor
    · rintro ⟨⟨⟨h1, h2⟩, h3⟩, h4⟩
      exact ⟨(fun h => by cases h), fun _ => h1, fun _ => h2, fun _ => h3, fun _ => h4⟩
    · intro h
      exact ⟨⟨⟨h.year rfl, h.mon rfl⟩, h.day rfl⟩, h.hour rfl⟩
theorem setB_nil : setB [] = false := by decide +kernel
theorem eraOk_iff (e : EraP) : eraOk e = true ↔ EraRight e := by
  simp only [eraOk, Bool.and_eq_true, Bool.or_eq_true, decide_eq_true_eq, beq_iff_eq, untilOk_iff]
  constructor
  · rintro ⟨⟨⟨⟨⟨⟨⟨h1, h2⟩, h3⟩, h4⟩, h5⟩, h6⟩, h7⟩, h8⟩
    refine ⟨h1, h2, fun h => h3.resolve_left h, fun h => h7.resolve_left (fun h' => h' h), fun h => ?_, fun h => h5.resolve_left h, h6, h8⟩
    rw [← h4]; exact decide_eq_true h
  · intro h
    refine ⟨⟨⟨⟨⟨⟨⟨h.off, h.kind⟩, ?_⟩, ?_⟩, ?_⟩, h.fmt⟩, ?_⟩, h.til⟩
    · by_cases h1 : e.kind = 1
      · exact .inl h1
      · exact .inr (h.save0 h1)
    · by_cases h2 : e.kind = 2
      · rw [h.set2 h2]; exact decide_eq_true h2
      · rw [h.set0 h2, setB_nil]; exact decide_eq_false h2
    · by_cases h2 : e.kind = 2
      · exact .inl h2
      · exact .inr (h.set0 h2)
    · by_cases h1 : e.kind = 1
      · exact .inr (h.save1 h1)
      · exact .inl h1
theorem until_fs {u : UntilP} (h : UntilRight u) (hi : u.is = true) : endR_ (untilFs u) = (u, 0) := by
  obtain ⟨is, y, m, ⟨d1, d2, d3⟩, ⟨h1, h2⟩⟩ := u
  obtain rfl : is = true := hi
  have ey := year_back (h.year rfl)
  have em := (month_back (h.mon rfl)).1
  have ed := (day_back (h.day rfl)).1
  have eh := clock_back (h.hour rfl)
  simp only at ey em ed eh
  by_cases hh : (h1, h2) = ((0, 0) : Int × Int)
  · by_cases hd : (d1, d2, d3) = ((1, 0, 1) : Int × Int × Int)
    · by_cases hm : m = 1
      · have hl : lastN ⟨true, y, m, (d1, d2, d3), (h1, h2)⟩ = 0 := by simp [lastN, hh, hd, hm]
        cases hh; cases hd; subst hm
        simp [untilFs, hl, endR_, ey]
      · have hl : lastN ⟨true, y, m, (d1, d2, d3), (h1, h2)⟩ = 1 := by simp [lastN, hh, hd, hm]
        cases hh; cases hd
        simp [untilFs, hl, endR_, ey, em]
    · have hl : lastN ⟨true, y, m, (d1, d2, d3), (h1, h2)⟩ = 2 := by simp only [lastN, hh, ne_eq, not_true, if_false, hd, not_false_eq_true, if_true]
      cases hh
      simp [untilFs, hl, endR_, ey, em, ed]
  · have hl : lastN ⟨true, y, m, (d1, d2, d3), (h1, h2)⟩ = 3 := by simp only [lastN, hh, ne_eq, not_false_eq_true, if_true]
    simp [untilFs, hl, endR_, ey, em, ed, eh]
theorem off_not_dash (x : Int) : offTx x ≠ [45] := by
  intro h
  unfold offTx at h
  have hl : 0 < (offT x.natAbs).length := by
    obtain ⟨c, hc, _⟩ := off_last (n := x.natAbs)
    cases ho : offT x.natAbs with
    | nil => rw [ho] at hc; cases hc
    | cons a l => simp
  have hl2 : 3 ≤ (offT x.natAbs).length := by
    rw [offT_eq]
    have h1 : (twoT (x.natAbs / 60 % 60)).length = 2 := twoT_len' _ (by omega)
    simp [h1]; omega
  have := congrArg List.length h
  simp at this
  omega
theorem off_no_head (x : Int) : headB (offTx x) = false := by
  have hb : ∀ c, (offTx x).head? = some c → 45 ≤ c.toNat ∧ c.toNat ≤ 58 := by
    intro c hc
    unfold offTx at hc
    by_cases hx : x < 0
    · rw [if_pos hx] at hc; cases hc; decide
    · rw [if_neg hx, List.nil_append] at hc
      have := off_bytes (n := x.natAbs) c (List.mem_of_mem_head? hc)
      omega
  unfold headB ofB
  cases hl : offTx x with
  | nil => rfl
  | cons c l =>
    rw [hl] at hb
    have := hb c rfl
    simp only [List.take_succ_cons, List.take_zero, List.all_cons, List.all_nil, Bool.and_true]
    have hk : ∀ k : Fin 256, 45 ≤ k.val ∧ k.val ≤ 58 → (kindN k.val &&& 1 != 0) = false := by decide +kernel
    rw [hk ⟨c.toNat, c.toNat_lt⟩ this, Bool.and_false]
theorem set_head {l : List UInt8} (h : setB l = true) : headB l = true ∧ l ≠ [45] := by
  have h1 : ofB 1 1 1 (l.take 1) = true := by
    have := h
    simp only [setB, Bool.and_eq_true] at this
    exact this.2
  refine ⟨?_, ?_⟩
  · unfold headB
    simp only [ofB, Bool.and_eq_true, decide_eq_true_eq] at h1 ⊢
    exact ⟨⟨h1.1.1, by omega⟩, h1.2⟩
  · rintro rfl
    exact absurd h (by decide +kernel)
theorem rules_by {e : EraP} (h : EraRight e) : rulesR (byT e) = ((e.kind, e.save, e.set), 0) := by
  have hk := h.kind
  rcases (by omega : e.kind = 0 ∨ e.kind = 1 ∨ e.kind = 2) with h0 | h0 | h0
  · have : byT e = [45] := by unfold byT; rw [if_neg (by omega), if_neg (by omega)]
    rw [this, rulesR, if_pos rfl, h0, h.save0 (by omega), h.set0 (by omega)]
  · have : byT e = offTx e.save := by unfold byT; rw [if_pos h0]
    rw [this, rulesR, if_neg (off_not_dash _), off_no_head, if_neg (by decide), off_back (h.save1 h0), if_pos rfl, h0, h.set0 (by omega)]
  · have : byT e = e.set := by unfold byT; rw [if_neg (by omega), if_pos h0]
    obtain ⟨a, b⟩ := set_head (h.set2 h0)
    rw [this, rulesR, if_neg b, if_pos a, if_pos (h.set2 h0), h0, h.save0 (by omega)]
theorem until_len (u : UntilP) : (untilFs u).length = if u.is = false then 0 else 1 + lastN u := by
  unfold untilFs
  have : lastN u ≤ 3 := by unfold lastN; (repeat' split) <;> omega
  split
  · rfl
  · rcases (by omega : lastN u = 0 ∨ lastN u = 1 ∨ lastN u = 2 ∨ lastN u = 3) with h | h | h | h <;> rw [h] <;> simp
theorem lastN_le (u : UntilP) : lastN u ≤ 3 := by unfold lastN; (repeat' split) <;> omega
theorem era_back {e : EraP} (h : EraRight e) : eraR (eraFs e) = (e, 0) := by
  have hl : (eraFs e).length = 3 + (untilFs e.til).length := by simp [eraFs]; omega
  have hu := until_len e.til
  have hn := lastN_le e.til
  have e0 : (eraFs e).getD 0 [] = offTx e.off := rfl
  have e1 : (eraFs e).getD 1 [] = byT e := rfl
  have e2 : (eraFs e).getD 2 [] = e.fmt := rfl
  have e3 : (eraFs e).drop 3 = untilFs e.til := rfl
  unfold eraR
  rw [e0, e1, e2, e3, off_back h.off, rules_by h, h.fmt]
  rw [if_neg (by rw [hl, hu]; split <;> omega), if_neg (by simp), if_neg (by simp), if_neg (by simp)]
  by_cases hi : e.til.is = false
  · rw [if_pos (by rw [hl, hu, if_pos hi])]
    have := h.til.no hi
    obtain ⟨_, _, _, _, _, t⟩ := e
    simp only at this
    subst this
    rfl
  · have hi' : e.til.is = true := by simpa using hi
    rw [if_neg (by rw [hl, hu, if_neg hi]; omega), until_fs h.til hi', if_neg (by simp)]

-- what is read can be written
theorem rules_right {l : List UInt8} (h : (rulesR l).2 = 0) : (0 ≤ (rulesR l).1.1 ∧ (rulesR l).1.1 ≤ 2) ∧ ((rulesR l).1.1 ≠ 1 → (rulesR l).1.2.1 = 0) ∧ ((rulesR l).1.1 = 1 → -604799 ≤ (rulesR l).1.2.1 ∧ (rulesR l).1.2.1 ≤ 604799) ∧ ((rulesR l).1.1 = 2 → setB (rulesR l).1.2.2 = true) ∧ ((rulesR l).1.1 ≠ 2 → (rulesR l).1.2.2 = []) := by
  unfold rulesR at h ⊢
  by_cases h1 : l = [45]
  · rw [if_pos h1]
    exact ⟨⟨by decide, by decide⟩, fun _ => rfl, (fun h => absurd h (by decide)), (fun h => absurd h (by decide)), fun _ => rfl⟩
  · rw [if_neg h1] at h ⊢
    by_cases h2 : headB l = true
    · rw [if_pos h2] at h ⊢
      by_cases h3 : setB l = true
      · rw [if_pos h3]
        exact ⟨⟨by simp, by simp⟩, fun _ => rfl, (fun h => absurd h (by simp)), fun _ => h3, (fun h => absurd rfl h)⟩
      · rw [if_neg h3] at h
        exact absurd h (by decide)
    · rw [if_neg h2] at h ⊢
      by_cases h3 : (offParseR l).2 = 0
      · rw [if_pos h3]
        exact ⟨⟨by simp, by simp⟩, (fun h => absurd rfl h), fun _ => off_bd h3, (fun h => absurd h (by simp)), fun _ => rfl⟩
      · rw [if_neg h3] at h
        exact absurd h h3
theorem rules_none {l : List UInt8} (h : (rulesR l).2 ≠ 0) : (rulesR l).1 = (0, 0, []) := by
  unfold rulesR at h ⊢
  by_cases h1 : l = [45]
  · rw [if_pos h1] at h; exact absurd rfl h
  · rw [if_neg h1] at h ⊢
    by_cases h2 : headB l = true
    · rw [if_pos h2] at h ⊢
      by_cases h3 : setB l = true
      · rw [if_pos h3] at h; exact absurd rfl h
      · rw [if_neg h3]
    · rw [if_neg h2] at h ⊢
      by_cases h3 : (offParseR l).2 = 0
      · rw [if_pos h3] at h; exact absurd rfl h
      · rw [if_neg h3]
theorem endR_right {l : List (List UInt8)} (h : (endR_ l).2 = 0) : UntilRight (endR_ l).1 ∧ (endR_ l).1.is = true := by
  unfold endR_ at h ⊢
  by_cases h1 : (yearR (l.getD 0 [])).2 ≠ 0
  · rw [if_pos h1] at h; exact absurd h h1
  rw [if_neg h1] at h ⊢
  by_cases h2 : 1 < l.length ∧ (wordR monthL 1 (l.getD 1 [])).2 ≠ 0
  · rw [if_pos h2] at h; exact absurd h h2.2
  rw [if_neg h2] at h ⊢
  by_cases h3 : 2 < l.length ∧ (parseR (l.getD 2 [])).2 ≠ 0
  · rw [if_pos h3] at h; exact absurd h h3.2
  rw [if_neg h3] at h ⊢
  by_cases h4 : 3 < l.length ∧ (clockR (l.getD 3 [])).2 ≠ 0
  · rw [if_pos h4] at h; exact absurd h h4.2
  rw [if_neg h4] at h ⊢
  refine ⟨⟨(fun h => by cases h), fun _ => year_named (by simpa using h1), fun _ => ?_, fun _ => ?_, fun _ => ?_⟩, rfl⟩
  · simp only
    split
    · rename_i hl
      have := wordR_found (show (wordR monthL 1 (l.getD 1 [])).2 = 0 by apply Classical.byContradiction; intro hx; exact h2 ⟨hl, hx⟩)
      have h12 : monthL.length = 12 := rfl
      rw [h12] at this
      omega
    · omega
  · simp only
    split
    · rename_i hl
      exact parse_right (by apply Classical.byContradiction; intro hx; exact h3 ⟨hl, hx⟩)
    · decide
  · simp only
    split
    · rename_i hl
      exact clock_right (by apply Classical.byContradiction; intro hx; exact h4 ⟨hl, hx⟩)
    · decide
theorem era_right {l : List (List UInt8)} (h : (eraR l).2 = 0) : EraRight (eraR l).1 ∧ 3 ≤ l.length ∧ l.length ≤ 7 := by
  unfold eraR at h ⊢
  by_cases h1 : l.length < 3 ∨ 7 < l.length
  · rw [if_pos h1] at h; exact absurd h (by decide)
  rw [if_neg h1] at h ⊢
  by_cases h2 : (offParseR (l.getD 0 [])).2 ≠ 0
  · rw [if_pos h2] at h; exact absurd h h2
  rw [if_neg h2] at h ⊢
  by_cases h3 : (rulesR (l.getD 1 [])).2 ≠ 0
  · rw [if_pos h3] at h; exact absurd h h3
  rw [if_neg h3] at h ⊢
  by_cases h4 : fmtB (l.getD 2 []) = false
  · rw [if_pos h4] at h; exact absurd h (by decide)
  rw [if_neg h4] at h ⊢
  have e1 := off_bd (show (offParseR (l.getD 0 [])).2 = 0 by simpa using h2)
  obtain ⟨r1, r2, r3, r4, r5⟩ := rules_right (show (rulesR (l.getD 1 [])).2 = 0 by simpa using h3)
  have e4 : fmtB (l.getD 2 []) = true := by simpa using h4
  by_cases h5 : l.length = 3
  · rw [if_pos h5]
    exact ⟨⟨e1, r1, r2, r3, r4, r5, e4, ⟨fun _ => rfl, (fun h => by cases h), (fun h => by cases h), (fun h => by cases h), (fun h => by cases h)⟩⟩, by omega, by omega⟩
  rw [if_neg h5] at h ⊢
  by_cases h6 : (endR_ (l.drop 3)).2 ≠ 0
  · rw [if_pos h6] at h; exact absurd h h6
  rw [if_neg h6]
  exact ⟨⟨e1, r1, r2, r3, r4, r5, e4, (endR_right (by simpa using h6)).1⟩, by omega, by omega⟩
theorem era_none {l : List (List UInt8)} (h : (eraR l).2 ≠ 0) : (eraR l).1 = EraP.none := by
  unfold eraR at h ⊢
  split
  · rfl
  split
  · rfl
  split
  · rfl
  split
  · rfl
  split
  · rename_i h1 h2 h3 h4 h5
    rw [if_neg h1, if_neg h2, if_neg h3, if_neg h4, if_pos h5] at h
    exact absurd rfl h
  split
  · rfl
  · rename_i h1 h2 h3 h4 h5 h6
    rw [if_neg h1, if_neg h2, if_neg h3, if_neg h4, if_neg h5, if_neg h6] at h
    exact absurd rfl h

-- a line and its fields
theorem index_plain : ∀ (a : List UInt8), (∀ c ∈ a, c ≠ 32) → Lib.index a [32] = -1
  | [], _ => rfl
  | c :: a, h => by
    have h0 : c ≠ 32 := h c (by simp)
    have ih := index_plain a fun x hx => h x (by simp [hx])
    unfold Lib.index
    rw [if_neg (by simp [List.isPrefixOf]; exact fun e => h0 e.symm), ih]
    rfl
theorem index_space : ∀ (a r : List UInt8), (∀ c ∈ a, c ≠ 32) → Lib.index (a ++ 32 :: r) [32] = (a.length : Int)
  | [], r, _ => by
    show Lib.index (32 :: r) [32] = 0
    unfold Lib.index
    rw [if_pos (by simp [List.isPrefixOf])]
  | c :: a, r, h => by
    have h0 : c ≠ 32 := h c (by simp)
    have ih := index_space a r fun x hx => h x (by simp [hx])
    show Lib.index (c :: (a ++ 32 :: r)) [32] = _
    unfold Lib.index
    rw [if_neg (by simp [List.isPrefixOf]; exact fun e => h0 e.symm), ih, if_neg (by simp <;> omega)]
    simp
theorem split_join : ∀ (fs : List (List UInt8)), fs ≠ [] → (∀ a ∈ fs, ∀ c ∈ a, c ≠ 32) → Lib.count (joinS fs) [32] = fs.length - 1 ∧ Lib.splitK [32] 0 (fs.length - 1) (joinS fs) = fs
  | [], h, _ => absurd rfl h
  | [a], _, h => by
    have hp := index_plain a (h a (by simp))
    have hj : joinS [a] = a := by simp [joinS]
    rw [hj]
    exact ⟨Lib.count_miss hp, rfl⟩
  | a :: b :: r, _, h => by
    obtain ⟨ih1, ih2⟩ := split_join (b :: r) (by simp) fun x hx => h x (by simp only [List.mem_cons] at hx ⊢; exact .inr hx)
    have hj : joinS (a :: b :: r) = a ++ 32 :: joinS (b :: r) := by
      show (if b :: r = [] then a else a ++ 32 :: joinS (b :: r)) = _
      rw [if_neg (by simp)]
    have hi := index_space a (joinS (b :: r)) (h a (by simp))
    have hd : (a ++ 32 :: joinS (b :: r)).drop (a.length + [(32 : UInt8)].length) = joinS (b :: r) := by
      rw [List.drop_append]; simp
    rw [hj]
    constructor
    · rw [Lib.count_hit (by simp) hi, hd, ih1]
      simp
      omega
    · show Lib.splitK [32] 0 ((b :: r).length - 1 + 1) _ = _
      unfold Lib.splitK
      rw [hi, if_neg (by simp <;> omega)]
      have : ((a.length : Int)).toNat = a.length := by omega
      rw [this, hd, ih2]
      simp

theorem fmt_plain {l : List UInt8} (h : fmtB l = true) : (∀ c ∈ l, c ≠ 32) ∧ 1 ≤ l.length ∧ l.length ≤ 20 := by
  simp only [fmtB, Bool.and_eq_true, decide_eq_true_eq, List.all_eq_true] at h
  refine ⟨?_, h.1.1, h.1.2⟩
  rintro c hc rfl
  have := h.2 32 hc
  exact absurd this (by decide)
theorem clock_plain (x b : Int) : ∀ c ∈ clockT x b, c ≠ 32 := by
  intro c hc
  rcases List.mem_append.1 (show c ∈ offTx x ++ (if b = 1 then [115] else if b = 2 then [117] else []) from hc) with hc | hc
  · exact off_plain _ c hc
  · split at hc
    · simp at hc; subst hc; decide
    · split at hc
      · simp at hc; subst hc; decide
      · simp at hc
theorem clock_len {x b : Int} (h : clockOk x b = true) : (clockT x b).length ≤ 11 := by
  simp only [clockOk, Bool.and_eq_true, decide_eq_true_eq] at h
  have := off_len h.1
  show (offTx x ++ _).length ≤ 11
  rw [List.length_append]
  split
  · simp; omega
  · split <;> simp <;> omega
theorem year_plain {y : Int} (h : namedB y = true) : (∀ c ∈ Lib.itoa y, c ≠ 32) ∧ (Lib.itoa y).length ≤ 30 := by
  obtain ⟨n, hn, h1, h2⟩ := named_nat h
  rw [hn, itoa_nat]
  exact ⟨dec_plain n, dec_len4 n (by omega)⟩
theorem by_plain {e : EraP} (h : EraRight e) : (∀ c ∈ byT e, c ≠ 32) ∧ (byT e).length ≤ 30 := by
  unfold byT
  split
  · rename_i h1
    exact ⟨off_plain _, by have := off_len (h.save1 h1); omega⟩
  · split
    · rename_i h2
      have := h.set2 h2
      refine ⟨?_, set_len this⟩
      simp only [setB, Bool.and_eq_true] at this
      exact ofB_plain this.1
    · exact ⟨all_plain (by decide), by decide⟩
theorem until_in {u : UntilP} {a : List UInt8} (ha : a ∈ untilFs u) : u.is = true ∧ (a = Lib.itoa u.year ∨ a = monthT u.mon ∨ a = dayText u.day.1 u.day.2.1 u.day.2.2 ∨ a = clockT u.hour.1 u.hour.2) := by
  unfold untilFs at ha
  by_cases hi : u.is = false
  · rw [if_pos hi] at ha; cases ha
  · rw [if_neg hi] at ha
    refine ⟨by simpa using hi, ?_⟩
    simp only [List.mem_append, List.mem_cons, List.not_mem_nil, or_false] at ha
    rcases ha with ((ha | ha) | ha) | ha
    · exact .inl ha
    · split at ha
      · simp at ha; exact .inr (.inl ha)
      · cases ha
    · split at ha
      · simp at ha; exact .inr (.inr (.inl ha))
      · cases ha
    · split at ha
      · simp at ha; exact .inr (.inr (.inr ha))
      · cases ha
theorem era_field {e : EraP} (h : EraRight e) : ∀ a ∈ eraFs e, (∀ c ∈ a, c ≠ 32) ∧ a.length ≤ 30 := by
  intro a ha
  simp only [eraFs, List.mem_append, List.mem_cons, List.not_mem_nil, or_false] at ha
  rcases ha with (rfl | rfl | rfl) | ha
  · exact ⟨off_plain _, by have := off_len h.off; omega⟩
  · exact by_plain h
  · have := fmt_plain h.fmt
    exact ⟨this.1, by omega⟩
  · obtain ⟨hi, ha⟩ := until_in ha
    rcases ha with rfl | rfl | rfl | rfl
    · exact year_plain (h.til.year hi)
    · exact ⟨all_plain (month_back (h.til.mon hi)).2, by have := monthT_len e.til.mon; omega⟩
    · have := day_back (h.til.day hi)
      exact ⟨all_plain this.2.1, by omega⟩
    · exact ⟨clock_plain _ _, by have := clock_len (h.til.hour hi); omega⟩
theorem eraFs_ne (e : EraP) : eraFs e ≠ [] := by simp [eraFs]
theorem eraFs_len (e : EraP) : 3 ≤ (eraFs e).length ∧ (eraFs e).length ≤ 7 := by
  have h1 := until_len e.til
  have h2 := lastN_le e.til
  have h3 : (eraFs e).length = 3 + (untilFs e.til).length := by simp [eraFs]; omega
  rw [h3, h1]
  split <;> omega
theorem eraT_len {e : EraP} (h : EraRight e) : (eraT e).length ≤ 217 := by
  have := joinS_len _ fun a ha => (era_field h a ha).2
  have := (eraFs_len e).2
  unfold eraT
  omega
theorem era_split {e : EraP} (h : EraRight e) : Lib.count (eraT e) [32] = (eraFs e).length - 1 ∧ Lib.splitK [32] 0 ((eraFs e).length - 1) (eraT e) = eraFs e :=
  split_join _ (eraFs_ne e) fun a ha => (era_field h a ha).1
theorem eraT_inj {e x : EraP} (he : EraRight e) (hx : EraRight x) (h : eraT e = eraT x) : e = x := by
  have h1 := era_split he
  have h2 := era_split hx
  rw [h] at h1
  have h3 : (eraFs e).length - 1 = (eraFs x).length - 1 := h1.1.symm.trans h2.1
  rw [h3] at h1
  have h4 : eraFs e = eraFs x := h1.2.symm.trans h2.2
  have h5 := era_back he
  rw [h4, era_back hx] at h5
  exact (Prod.mk.inj h5).1.symm


/-- the fields of an end, with a space in front of each -/
def endT (u : UntilP) : List UInt8 := (untilFs u).flatMap fun x => 32 :: x
theorem joinS_flat (a : List UInt8) (l : List (List UInt8)) : joinS (a :: l) = a ++ l.flatMap fun x => 32 :: x := by
  induction l generalizing a with
  | nil => simp [joinS]
  | cons b l ih =>
    rw [show joinS (a :: b :: l) = a ++ 32 :: joinS (b :: l) from if_neg (by simp), ih]
    simp
theorem eraT_eq (e : EraP) : eraT e = offTx e.off ++ ([32] ++ (byT e ++ ([32] ++ (e.fmt ++ endT e.til)))) := by
  unfold eraT eraFs endT
  rw [show [offTx e.off, byT e, e.fmt] ++ untilFs e.til = offTx e.off :: byT e :: e.fmt :: untilFs e.til from rfl, joinS_flat]
  simp

def untilFull (u : UntilP) : List (List UInt8) := [Lib.itoa u.year, monthT u.mon, dayText u.day.1 u.day.2.1 u.day.2.2, clockT u.hour.1 u.hour.2]
def cutU (u : UntilP) (j : Nat) : UntilP := ⟨true, u.year, if 1 ≤ j then u.mon else 1, if 2 ≤ j then u.day else (1, 0, 1), if 3 ≤ j then u.hour else (0, 0)⟩
theorem until_take {u : UntilP} (h : UntilRight u) (hi : u.is = true) (j : Nat) (hj : j ≤ 3) : endR_ ((untilFull u).take (1 + j)) = (cutU u j, 0) := by
  obtain ⟨is, y, m, ⟨d1, d2, d3⟩, ⟨h1, h2⟩⟩ := u
  obtain rfl : is = true := hi
  have ey := year_back (h.year rfl)
  have em := (month_back (h.mon rfl)).1
  have ed := (day_back (h.day rfl)).1
  have eh := clock_back (h.hour rfl)
  simp only at ey em ed eh
  rcases (by omega : j = 0 ∨ j = 1 ∨ j = 2 ∨ j = 3) with rfl | rfl | rfl | rfl
  · simp [untilFull, cutU, endR_, ey]
  · simp [untilFull, cutU, endR_, ey, em]
  · simp [untilFull, cutU, endR_, ey, em, ed]
  · simp [untilFull, cutU, endR_, ey, em, ed, eh]
theorem cutU_eq {u : UntilP} (hi : u.is = true) (j : Nat) : cutU u j = u ↔ lastN u ≤ j := by
  obtain ⟨is, y, m, d, hh⟩ := u
  obtain rfl : is = true := hi
  unfold lastN cutU
  simp only [UntilP.mk.injEq, true_and, ne_eq]
  by_cases c3 : hh = (0, 0)
  · by_cases c2 : d = (1, 0, 1)
    · by_cases c1 : m = 1
      · simp [c1, c2, c3]
      · simp only [c3, c2, c1, not_true, not_false_eq_true, if_true, if_false, ite_self, and_true]
        constructor
        · intro h; by_cases hj : 1 ≤ j
          · exact hj
          · rw [if_neg hj] at h; exact absurd h.symm c1
        · intro h; rw [if_pos h]
    · simp only [c3, c2, not_true, not_false_eq_true, if_true, if_false, ite_self, and_true]
      constructor
      · intro h; by_cases hj : 2 ≤ j
        · exact hj
        · rw [if_neg hj] at h; exact absurd h.2.symm c2
      · intro h; rw [if_pos h, if_pos (by omega)]; exact ⟨rfl, rfl⟩
  · simp only [c3, not_false_eq_true, if_true]
    constructor
    · intro h; by_cases hj : 3 ≤ j
      · exact hj
      · rw [if_neg hj] at h; exact absurd h.2.2.symm c3
    · intro h; rw [if_pos h, if_pos (by omega), if_pos (by omega)]; exact ⟨rfl, rfl, rfl⟩
theorem untilFs_take {u : UntilP} (hi : u.is = true) : untilFs u = (untilFull u).take (1 + lastN u) := by
  have hn := lastN_le u
  unfold untilFs untilFull
  rw [if_neg (by simp [hi])]
  rcases (by omega : lastN u = 0 ∨ lastN u = 1 ∨ lastN u = 2 ∨ lastN u = 3) with h | h | h | h <;> rw [h] <;> simp

/-- all seven fields -/
def fullFs (e : EraP) : List (List UInt8) := [offTx e.off, byT e, e.fmt] ++ untilFull e.til
theorem fullFs_len (e : EraP) : (fullFs e).length = 7 := rfl
theorem eraFs_take {e : EraP} (hi : e.til.is = true) : eraFs e = (fullFs e).take (4 + lastN e.til) := by
  unfold eraFs fullFs
  rw [untilFs_take hi, List.take_append, show 4 + lastN e.til - [offTx e.off, byT e, e.fmt].length = 1 + lastN e.til from (by show 4 + lastN e.til - 3 = _; omega), List.take_of_length_le (l := [offTx e.off, byT e, e.fmt]) (by show 3 ≤ _; omega)]
def restF : List (List UInt8) := [[74, 97, 110], [49], [48, 58, 48, 48]]
theorem fullFs_drop {e : EraP} (h : EraRight e) (hi : e.til.is = true) (j : Nat) (hj : lastN e.til ≤ j) : (fullFs e).drop (4 + j) = restF.drop j := by
  rcases (by omega : j = 0 ∨ j = 1 ∨ j = 2 ∨ 3 ≤ j) with rfl | rfl | rfl | h3
  · have := (cutU_eq hi 0).2 hj
    simp only [cutU] at this
    have a1 : e.til.mon = 1 := by rw [← this]; rfl
    have a2 : e.til.day = (1, 0, 1) := by rw [← this]; rfl
    have a3 : e.til.hour = (0, 0) := by rw [← this]; rfl
    show [monthT e.til.mon, dayText e.til.day.1 e.til.day.2.1 e.til.day.2.2, clockT e.til.hour.1 e.til.hour.2] = restF
    rw [a1, a2, a3]; decide +kernel
  · have := (cutU_eq hi 1).2 hj
    simp only [cutU] at this
    have a2 : e.til.day = (1, 0, 1) := by rw [← this]; rfl
    have a3 : e.til.hour = (0, 0) := by rw [← this]; rfl
    show [dayText e.til.day.1 e.til.day.2.1 e.til.day.2.2, clockT e.til.hour.1 e.til.hour.2] = restF.drop 1
    rw [a2, a3]; decide +kernel
  · have := (cutU_eq hi 2).2 hj
    simp only [cutU] at this
    have a3 : e.til.hour = (0, 0) := by rw [← this]; rfl
    show [clockT e.til.hour.1 e.til.hour.2] = restF.drop 2
    rw [a3]; decide +kernel
  · rw [List.drop_eq_nil_of_le (by rw [fullFs_len]; omega), List.drop_eq_nil_of_le (by show 3 ≤ j; exact h3)]
theorem full_heads (e : EraP) (m : Nat) (hm : 3 ≤ m) : ((fullFs e).take m).getD 0 [] = offTx e.off ∧ ((fullFs e).take m).getD 1 [] = byT e ∧ ((fullFs e).take m).getD 2 [] = e.fmt := by
  obtain ⟨k, rfl⟩ : ∃ k, m = k + 3 := ⟨m - 3, by omega⟩
  exact ⟨rfl, rfl, rfl⟩
theorem era_take {e : EraP} (h : EraRight e) (hi : e.til.is = true) (j : Nat) (hj : j ≤ 3) : eraR ((fullFs e).take (4 + j)) = ({ e with til := cutU e.til j }, 0) := by
  obtain ⟨e0, e1, e2⟩ := full_heads e (4 + j) (by omega)
  have hl : ((fullFs e).take (4 + j)).length = 4 + j := by rw [List.length_take, fullFs_len]; omega
  have e3 : ((fullFs e).take (4 + j)).drop 3 = (untilFull e.til).take (1 + j) := by
    rw [List.drop_take, show 4 + j - 3 = 1 + j by omega]; rfl
  unfold eraR
  rw [e0, e1, e2, e3, off_back h.off, rules_by h, h.fmt, hl]
  rw [if_neg (by omega), if_neg (by simp), if_neg (by simp), if_neg (by simp), if_neg (by omega), until_take h.til hi j hj, if_neg (by simp)]
theorem era_three {e : EraP} (h : EraRight e) : eraR ((fullFs e).take 3) = ({ e with til := UntilP.none }, 0) := by
  have e0 : ((fullFs e).take 3) = [offTx e.off, byT e, e.fmt] := rfl
  rw [e0]
  unfold eraR
  simp only [List.getD_cons_zero, List.getD_cons_succ, List.length_cons, List.length_nil]
  rw [off_back h.off, rules_by h, h.fmt]
  rw [if_neg (by omega), if_neg (by simp), if_neg (by simp), if_neg (by simp), if_pos trivial]
/-- with its last fields left out a line means another era, or none -/
theorem era_short {e : EraP} (h : EraRight e) (m : Nat) (hm : m < (eraFs e).length) : eraR ((eraFs e).take m) ≠ (e, 0) := by
  have hl := eraFs_len e
  by_cases h3 : m < 3
  · have : ((eraFs e).take m).length < 3 := by rw [List.length_take]; omega
    unfold eraR
    rw [if_pos (.inl this)]
    intro hx
    exact absurd (congrArg Prod.snd hx) (show (5 : Int) ≠ 0 by decide)
  · have hu := until_len e.til
    have hlen : (eraFs e).length = 3 + (untilFs e.til).length := by simp [eraFs]; omega
    by_cases hi : e.til.is = true
    · rw [if_neg (by simp [hi])] at hu
      rw [eraFs_take hi, List.take_take, Nat.min_eq_left (by omega)]
      by_cases h4 : m = 3
      · subst h4
        rw [era_three h]
        intro hx
        have := congrArg (fun x => x.1.til.is) hx
        simp only [UntilP.none, hi] at this
        exact absurd this (by decide)
      · obtain ⟨j, rfl⟩ : ∃ j, m = 4 + j := ⟨m - 4, by omega⟩
        have := lastN_le e.til
        rw [era_take h hi j (by omega)]
        intro hx
        have := congrArg (fun x => x.1.til) hx
        have := (cutU_eq hi j).1 this
        omega
    · rw [if_pos (by simpa using hi)] at hu
      omega
/-- with the fields that were left out it means the same -/
theorem era_long {e : EraP} (h : EraRight e) (hi : e.til.is = true) (j : Nat) (h1 : lastN e.til ≤ j) (h2 : j ≤ 3) : eraR ((fullFs e).take (4 + j)) = (e, 0) := by
  rw [era_take h hi j h2, (cutU_eq hi j).2 h1]
theorem era_many {l : List (List UInt8)} (h : 7 < l.length) : eraR l = (EraP.none, 5) := if_pos (.inr h)
theorem full_split {e : EraP} (h : EraRight e) (hi : e.til.is = true) (j : Nat) (h1 : lastN e.til ≤ j) : (fullFs e).take (4 + j) = eraFs e ++ (restF.drop (lastN e.til)).take (j - lastN e.til) := by
  rw [eraFs_take hi, ← fullFs_drop h hi (lastN e.til) (Nat.le_refl _), ← List.take_add, show 4 + lastN e.til + (j - lastN e.til) = 4 + j by omega]

/-- fields that are wrong -/
def wrongF : List (List UInt8) := [[49, 58, 48], [50, 58], [34], [120], [88, 121, 122], [108, 97, 115, 116, 83, 117, 32, 110], [48, 58, 48, 48, 120]]
def wrongE : List Int := [5, 5, 15, 5, 8, 0, 5]
theorem era_wrong {e : EraP} (h : EraRight e) (hi : e.til.is = true) (ls : List (List UInt8)) (k : Nat) (hk : k < 7) (hlen : ls.length = 7) (hbef : ∀ i, i < k → ls.getD i [] = (fullFs e).getD i []) (hat : ls.getD k [] = wrongF.getD k []) :
    (eraR ls).1 = EraP.none ∧ (eraR ls).2 ≠ 0 ∧ (wrongE.getD k 0 = 0 ∨ (eraR ls).2 = wrongE.getD k 0) := by
  have key : (eraR ls).2 ≠ 0 ∧ (wrongE.getD k 0 = 0 ∨ (eraR ls).2 = wrongE.getD k 0) := by
    have ey := year_back (h.til.year hi)
    have em := (month_back (h.til.mon hi)).1
    have ed := (day_back (h.til.day hi)).1
    have eo := off_back h.off
    have er := rules_by h
    have d0 : (ls.drop 3).getD 0 [] = ls.getD 3 [] := by simp
    have d1 : (ls.drop 3).getD 1 [] = ls.getD 4 [] := by simp
    have d2 : (ls.drop 3).getD 2 [] = ls.getD 5 [] := by simp
    have d3 : (ls.drop 3).getD 3 [] = ls.getD 6 [] := by simp
    have dl : (ls.drop 3).length = 4 := by rw [List.length_drop]; omega
    have w0 : offParseR [49, 58, 48] = (0, 5) := by decide +kernel
    have w1 : rulesR [50, 58] = ((0, 0, []), 5) := by decide +kernel
    have w2 : fmtB [34] = false := by decide +kernel
    have w3 : yearR [120] = (0, 5) := by decide +kernel
    have w4 : (wordR monthL 1 [88, 121, 122]).2 = 8 := by decide +kernel
    have w5 : (parseR [108, 97, 115, 116, 83, 117, 32, 110]).2 ≠ 0 := by decide +kernel
    have w6 : (clockR [48, 58, 48, 48, 120]).2 = 5 := by decide +kernel
    have f0 : 0 < k → ls.getD 0 [] = offTx e.off := hbef 0
    have f1 : 1 < k → ls.getD 1 [] = byT e := hbef 1
    have f2 : 2 < k → ls.getD 2 [] = e.fmt := hbef 2
    have f3 : 3 < k → ls.getD 3 [] = Lib.itoa e.til.year := hbef 3
    have f4 : 4 < k → ls.getD 4 [] = monthT e.til.mon := hbef 4
    have f5 : 5 < k → ls.getD 5 [] = dayText e.til.day.1 e.til.day.2.1 e.til.day.2.2 := hbef 5
    unfold eraR
    rw [hlen, if_neg (by omega)]
    rcases (by omega : k = 0 ∨ k = 1 ∨ k = 2 ∨ k = 3 ∨ k = 4 ∨ k = 5 ∨ k = 6) with rfl | rfl | rfl | rfl | rfl | rfl | rfl
    · rw [show ls.getD 0 [] = [49, 58, 48] from hat, w0, if_pos (by decide)]; decide
    · rw [f0 (by omega), eo, if_neg (by simp), show ls.getD 1 [] = [50, 58] from hat, w1, if_pos (by decide)]; decide
    · rw [f0 (by omega), eo, if_neg (by simp), f1 (by omega), er, if_neg (by simp), show ls.getD 2 [] = [34] from hat, w2, if_pos rfl]; decide
    · rw [f0 (by omega), eo, if_neg (by simp), f1 (by omega), er, if_neg (by simp), f2 (by omega), h.fmt, if_neg (by simp), if_neg (by omega)]
      have : endR_ (ls.drop 3) = (UntilP.none, 5) := by
        unfold endR_
        rw [d0, show ls.getD 3 [] = [120] from hat, w3, if_pos (by decide)]
      rw [this, if_pos (by decide)]; decide
    · rw [f0 (by omega), eo, if_neg (by simp), f1 (by omega), er, if_neg (by simp), f2 (by omega), h.fmt, if_neg (by simp), if_neg (by omega)]
      have : endR_ (ls.drop 3) = (UntilP.none, 8) := by
        unfold endR_
        rw [d0, d1, dl, f3 (by omega), ey, if_neg (by simp), show ls.getD 4 [] = [88, 121, 122] from hat, w4, if_pos (by decide)]
      rw [this, if_pos (by decide)]; decide
    · rw [f0 (by omega), eo, if_neg (by simp), f1 (by omega), er, if_neg (by simp), f2 (by omega), h.fmt, if_neg (by simp), if_neg (by omega)]
      have : (endR_ (ls.drop 3)).2 ≠ 0 := by
        unfold endR_
        rw [d0, d1, d2, dl, f3 (by omega), ey, if_neg (by simp), f4 (by omega), em, if_neg (by simp), show ls.getD 5 [] = [108, 97, 115, 116, 83, 117, 32, 110] from hat, if_pos ⟨by decide, w5⟩]
        exact w5
      rw [if_pos this]
      exact ⟨this, .inl rfl⟩
    · rw [f0 (by omega), eo, if_neg (by simp), f1 (by omega), er, if_neg (by simp), f2 (by omega), h.fmt, if_neg (by simp), if_neg (by omega)]
      have : endR_ (ls.drop 3) = (UntilP.none, 5) := by
        unfold endR_
        rw [d0, d1, d2, d3, dl, f3 (by omega), ey, if_neg (by simp), f4 (by omega), em, if_neg (by simp), f5 (by omega), ed, if_neg (by simp), show ls.getD 6 [] = [48, 58, 48, 48, 120] from hat, w6, if_pos (by decide)]
      rw [this, if_pos (by decide)]; decide
  exact ⟨era_none key.1, key⟩

open Go.RowKit Go.Lib

/-- what reading and writing panic with -/
def failV (x : Int) : Value := .iface 132 (.agg #[.int .i64 x])
def Fails (x : Int) : Ending := .panicked [{ v := failV x, recovered := false }]
/-- a value, or the panic -/
def orFail (v : Value) (x : Int) : Ending := if x = 0 then .returned v else Fails x
theorem orFail_ok (v : Value) : orFail v 0 = .returned v := rfl
theorem orFail_no (v : Value) {x : Int} (h : x ≠ 0) : orFail v x = Fails x := if_neg h

theorem must_yes (x : Int) (w : World) : Calls Tryz.prog 97 #[.bool true, .int .i64 x] w fun e w' => e = .returned (.tuple #[]) ∧ w = w' := by
  go_enter Tryz.func97, Tryz.ntmps97
  go_wp2_with fail
  go_end0
  exact ⟨rfl, rfl⟩
theorem must_no (x : Int) (w : World) : Calls Tryz.prog 97 #[.bool false, .int .i64 x] w fun e w' => e = Fails x ∧ w = w' := by
  go_enter Tryz.func97, Tryz.ntmps97
  go_wp2_with fail
  exact ⟨rfl, rfl, rfl⟩

theorem needStr_ok (x : ByteArray) (w : World) : Calls Tryz.prog 131 #[.string x, .int .i64 0] w fun e w' => e = .returned (.string x) ∧ w = w' := by
  go_enter Tryz.func131, Tryz.ntmps131
  go_wp2_with fail
  go_ret
  exact ⟨rfl, rfl⟩
theorem needStr_no (x : ByteArray) (c : Int) (hc : c ≠ 0) (w : World) : Calls Tryz.prog 131 #[.string x, .int .i64 c] w fun e w' => e = Fails c ∧ w = w' := by
  have hb : (c != 0) = true := by rw [bne_iff_ne]; exact hc
  clear hc
  go_enter Tryz.func131, Tryz.ntmps131
  go_wp2_with fail
  exact ⟨rfl, rfl, rfl⟩
theorem needStr_any (x : ByteArray) (c : Int) (w : World) : Calls Tryz.prog 131 #[.string x, .int .i64 c] w fun e w' => e = orFail (.string x) c ∧ Below w.heap.size w w' := by
  by_cases h : c = 0
  · subst h
    exact (needStr_ok x w).mono fun e w' ⟨a, b⟩ => ⟨a, b ▸ Below.refl _ _⟩
  · rw [orFail_no _ h]
    exact (needStr_no x c h w).mono fun e w' ⟨a, b⟩ => ⟨a, b ▸ Below.refl _ _⟩

theorem enamed_any (y : Int) (w : World) : Calls Tryz.prog 129 #[.int .i64 y] w fun e w' => e = .returned (.bool (namedB y)) ∧ w = w' := by
  obtain ⟨r, hr⟩ : ∃ r, namedB y = r := ⟨_, rfl⟩
  rw [hr]
  cases r with
  | true =>
    obtain ⟨h1, h2⟩ := of_decide_eq_true hr
    clear hr
    go_enter Tryz.func129, Tryz.ntmps129
    go_wp2_with fail
    go_ret
    exact ⟨rfl, rfl⟩
  | false =>
    have hc := of_decide_eq_false hr
    rcases (by omega : ¬ 1850 ≤ y ∨ (1850 ≤ y ∧ ¬ y ≤ 2149)) with h1 | ⟨h1, h2⟩
    all_goals
      clear hr hc
      go_enter Tryz.func129, Tryz.ntmps129
      go_wp2_with fail
      go_ret
      exact ⟨rfl, rfl⟩

def badR (r : Nat) : Bool := decide (r < 33) || decide (126 < r) || decide (r = 34) || decide (r = 35)
theorem bad_fmt (c : UInt8) : badR c.toNat = !fmtC c := by
  unfold badR fmtC
  by_cases h1 : c.toNat < 33 <;> by_cases h2 : 126 < c.toNat <;> by_cases h3 : c.toNat = 34 <;> by_cases h4 : c.toNat = 35 <;> simp [h1, h2, h3, h4] <;> omega
theorem bad_high {r : Nat} (h : 128 ≤ r) : badR r = true := by
  unfold badR
  rw [show decide (126 < r) = true from decide_eq_true (by omega)]
  simp
theorem idx_from (s : ByteArray) : ∀ (f pos : Nat), s.size ≤ pos + f → (idxFuncFrom badR true s f pos = -1 ↔ ∀ c ∈ s.data.toList.drop pos, fmtC c = true)
  | 0, pos, h => by
    rw [List.drop_eq_nil_of_le (by simpa using h)]
    simp [idxFuncFrom]
  | f + 1, pos, h => by
    have hl : s.data.toList.length = s.size := by simp
    unfold idxFuncFrom
    by_cases hp : pos < s.size
    · rw [if_pos hp, List.drop_eq_getElem_cons (by omega)]
      have e1 : s.data.toList[pos]'(by omega) = s[pos]'hp := rfl
      by_cases hb : (s[pos]'hp).toNat < 128
      · have hd := decode_ascii s pos hp hb
        rw [hd]
        simp only
        by_cases hbad : badR (s[pos]'hp).toNat = true
        · rw [if_pos hbad]
          constructor
          · intro h; omega
          · intro h
            have := h _ (List.mem_cons_self)
            rw [e1] at this
            rw [bad_fmt, this] at hbad
            exact absurd hbad (by decide)
        · rw [if_neg hbad, idx_from s f (pos + 1) (by omega)]
          have hg : fmtC (s[pos]'hp) = true := by
            rw [bad_fmt] at hbad
            simpa using hbad
          rw [e1]
          simp [hg]
      · have hh := (decode_high s pos hp (by omega)).1
        rw [if_pos (bad_high hh)]
        constructor
        · intro h; omega
        · intro h
          have := h _ (List.mem_cons_self)
          rw [e1] at this
          simp only [fmtC, decide_eq_true_eq] at this
          omega
    · rw [if_neg hp, List.drop_eq_nil_of_le (by omega)]
      simp
theorem fmt_idx (s : ByteArray) : fmtB s.data.toList = (decide (1 ≤ s.size ∧ s.size ≤ 20) && !decide (0 ≤ idxFunc badR true s)) := by
  have h := idx_from s s.size 0 (by omega)
  have hl : s.data.toList.length = s.size := by simp
  unfold fmtB
  rw [hl]
  congr 1
  rw [Bool.eq_iff_iff, List.all_eq_true]
  rcases idxFunc_range badR true s with h1 | ⟨h1, h2⟩
  · rw [h1]
    simp only [List.drop_zero] at h
    exact ⟨fun _ => rfl, fun _ => h.1 h1⟩
  · constructor
    · intro h3
      have := h.2 (by simpa using h3)
      unfold idxFunc at h1
      omega
    · intro h3
      simp [h1] at h3

theorem isBad (w : World) : PredAt Tryz.prog 127 #[] encR badR w := fun W r _ => by
  unfold FnGives badR
  by_cases h1 : r < 33 <;> by_cases h2 : 126 < r <;> by_cases h3 : r = 34 <;> by_cases h4 : r = 35
  all_goals first | (exfalso; omega) | skip
  all_goals
    have z1 : (r : Int) < 33 ↔ r < 33 := by omega
    have z2 : (126 : Int) < (r : Int) ↔ 126 < r := by omega
    have z3 : ((r : Int) == 34) = decide (r = 34) := by
      by_cases h : r = 34
      · subst h; rfl
      · rw [decide_eq_false h, beq_eq_false_iff_ne]; omega
    have z4 : ((r : Int) == 35) = decide (r = 35) := by
      by_cases h : r = 35
      · subst h; rfl
      · rw [decide_eq_false h, beq_eq_false_iff_ne]; omega
    go_enter Tryz.func127, Tryz.ntmps127
    go_wp2
    all_goals first | (exfalso; omega) | (go_ret; exact ⟨by simp [h1, h2, h3, h4], 0, rfl⟩)

set_option maxHeartbeats 1000000 in
theorem written_any (s : ByteArray) (w : World) (hs : s.size ≤ 1048576) : Calls Tryz.prog 98 #[.string s] w fun e w' => e = .returned (.bool (fmtB s.data.toList)) ∧ Below w.heap.size w w' := by
  have hF := fmt_idx s
  by_cases h1 : 1 ≤ s.size
  · by_cases h2 : s.size ≤ 20
    · rw [decide_eq_true (And.intro h1 h2), Bool.true_and] at hF
      have hC := Any.strings_ContainsFunc Tryz.laysGw17 127 #[] (enters_of Tryz.func127 (by kernel_rfl) rfl) badR s w (isBad w)
      change Calls Tryz.prog 128 _ _ _ at hC
      have HC := Lib.hid hC
      have HF := Lib.hid hF
      clear hC hF
      generalize decide (0 ≤ idxFunc badR true s) = r at *
      have z1 : (1 : Int) ≤ (s.size : Int) := by omega
      have z2 : (s.size : Int) ≤ 20 := by omega
      go_enter Tryz.func98, Tryz.ntmps98
      go_wp2_with fail
      refine HC.out.mono ?_
      rintro e w1 ⟨rfl, hb⟩
      go_wp2_with fail
      go_ret
      exact ⟨by rw [HF.out]; rfl, hb⟩
    · have HF := Lib.hid (show fmtB s.data.toList = false by rw [hF, decide_eq_false (fun h => h2 h.2)]; rfl)
      have z1 : (1 : Int) ≤ (s.size : Int) := by omega
      have z2 : ¬ (s.size : Int) ≤ 20 := by omega
      clear hF
      go_enter Tryz.func98, Tryz.ntmps98
      go_wp2_with fail
      go_ret
      exact ⟨by rw [HF.out]; rfl, Below.refl _ _⟩
  · have HF := Lib.hid (show fmtB s.data.toList = false by rw [hF, decide_eq_false (fun h => h1 h.1)]; rfl)
    have z1 : ¬ (1 : Int) ≤ (s.size : Int) := by omega
    clear hF
    go_enter Tryz.func98, Tryz.ntmps98
    go_wp2_with fail
    go_ret
    exact ⟨by rw [HF.out]; rfl, Below.refl _ _⟩

open Go.RowKit

theorem assert_fail (x : Int) (w : World) : (Instr.typeAssert (failV x) 20 132 true).run Tryz.prog w = .ok (.tuple #[.agg #[.int .i64 x], .bool true]) w := by kernel_rfl

theorem catch_fail (g : Nat) (y x : Int) (older : List PanicEntry) (w : World) (hB : Blk w g 31 #[.int .i64 y]) :
    CallsD Tryz.prog 95 #[.pointer (some ⟨g, 0, none⟩)] (.panicking ({ v := failV x, recovered := false } :: older)) w fun e u' w' =>
      e = .returned (.tuple #[]) ∧ u' = .panicking ({ v := failV x, recovered := true } :: older) ∧ w' = (w.alloc (.cells #[.int .i64 x] 132)).setCell ⟨g, 0, none⟩ (.int .i64 x) := by
  have hc : w.cell? ⟨g, 0, none⟩ = some (.int .i64 y) := hB.cell_ rfl
  have hz := hB.frozen 0
  have hlt := hB.lt
  have hta := fun w => assert_fail x w
  unfold failV at *
  refine callsD_of_wpS Tryz.func95 rfl fun c₀ cs hu => ?_
  apply wpS_seq
  apply wpS_region
  simp [wpOpsS, go_sem, recoverD, hu, Tryz.ntmps95, Exit.thenS]
  apply wpS_seq
  apply wpS_region
  simp [wpOpsS, go_sem, Exit.thenS]
  refine wpS_cond (t := true) (by simp [Act.eval, Array.replicate]) ?_
  simp only [if_true]
  apply wpS_seq
  apply wpS_region
  simp [wpOpsS, go_sem, Exit.thenS, hta]
  apply wpS_seq
  apply wpS_seq
  apply wpS_region
  simp [wpOpsS, go_sem, Exit.thenS]
  refine wpS_cond (t := false) (by simp [Act.eval, Array.replicate]) ?_
  simp only [Bool.false_eq_true, if_false]
  refine wpS_of_wp (wp_skip ?_)
  simp only [Exit.thenS]
  apply wpS_region
  simp [wpOpsS, go_sem, hc, hz, hlt, bodyPostS, results, Tryz.results95]

theorem catch_idle (g : Nat) (w : World) :
    CallsD Tryz.prog 95 #[.pointer (some ⟨g, 0, none⟩)] .returning w fun e u' w' => e = .returned (.tuple #[]) ∧ u' = .returning ∧ w' = w := by
  refine callsD_of_wpS Tryz.func95 rfl fun c₀ cs hu => ?_
  apply wpS_seq
  apply wpS_region
  simp [wpOpsS, go_sem, recoverD, hu, Tryz.ntmps95, Exit.thenS]
  apply wpS_seq
  apply wpS_region
  simp [wpOpsS, go_sem, Exit.thenS]
  refine wpS_cond (t := false) (by simp [Act.eval, Array.replicate]) ?_
  simp only [Bool.false_eq_true, if_false]
  refine wpS_of_wp (wp_skip ?_)
  cases c₀
  simp_all [bodyPostS, results, Tryz.results95]

/-- the world behind caught, where the closure has returned -/
def DoneP (g : Nat) (Q : World → Prop) (w' : World) : Prop := ∃ w2, Q w2 ∧ w' = w2.setCell ⟨g, 0, none⟩ (.int .i64 0)
set_option maxHeartbeats 400000 in
theorem caughtP_ok (pa pb : Value) (w : World) (Q : World → Prop)
    (HD : Hid (Calls Tryz.prog 63 #[pa, pb] (w.alloc (.cells #[.int .i64 0] 31)) fun e w' => e = .returned (.tuple #[]) ∧ Blk w' w.heap.size 31 #[.int .i64 0] ∧ Q w')) :
    Calls Tryz.prog 62 #[.func (.func 63) #[] #[pa, pb]] w fun e w' => e = .returned (.int .i64 0) ∧ DoneP w.heap.size Q w' := by
  have hmf : ∀ (fn : Fn) (first cap : Array Value) (w : World), (Instr.makeFunc fn first cap).run Tryz.prog w = .ok (.func fn first cap) w := fun _ _ _ _ => rfl
  go_enter_defers Tryz.func62, Tryz.ntmps62
  go_wp2_with fail
  refine HD.out.mono ?_
  rintro e w2 ⟨rfl, hB, hQ⟩
  have HB := Lib.hid hB
  have HQ := Lib.hid hQ
  have hc : w2.cell? ⟨w.heap.size, 0, none⟩ = some (.int .i64 0) := hB.cell_ rfl
  have hz := hB.frozen 0
  have hlt := hB.lt
  clear hB hQ
  go_wp2_with fail
  refine leaves_cons (f := 95) (args := #[.pointer (some ⟨w.heap.size, 0, none⟩)]) (by simp) (by simp [go_sem]) ?_
  refine (catch_idle w.heap.size _).mono ?_
  rintro e u' w'' ⟨rfl, rfl, rfl⟩
  simp [Leaves, settle, results, Tryz.results62, go_sem, hc]
  exact ⟨w2, HQ.out, rfl⟩

/-- the world behind caught, where the closure has returned -/
def DoneR (g : Nat) (Q : World → Prop) (w' : World) : Prop := ∃ w2, Q w2 ∧ w' = w2.setCell ⟨g, 0, none⟩ (.int .i64 0)
/-- the world behind caught, where the closure has panicked -/
def FellP (g : Nat) (x : Int) (Q : World → Prop) (w' : World) : Prop := ∃ w2, Q w2 ∧ w' = (w2.setCell ⟨g, 0, none⟩ (.int .i64 x)).alloc (.cells #[.int .i64 x] 132)
set_option maxHeartbeats 400000 in
theorem caughtP_no (pa pb : Value) (x : Int) (w : World) (Q : World → Prop)
    (HD : Hid (Calls Tryz.prog 63 #[pa, pb] (w.alloc (.cells #[.int .i64 0] 31)) fun e w' => e = Fails x ∧ Blk w' w.heap.size 31 #[.int .i64 0] ∧ Q w')) :
    Calls Tryz.prog 62 #[.func (.func 63) #[] #[pa, pb]] w fun e w' => e = .returned (.int .i64 x) ∧ FellP w.heap.size x Q w' := by
  have hmf : ∀ (fn : Fn) (first cap : Array Value) (w : World), (Instr.makeFunc fn first cap).run Tryz.prog w = .ok (.func fn first cap) w := fun _ _ _ _ => rfl
  go_enter_defers Tryz.func62, Tryz.ntmps62
  go_wp2_with fail
  refine HD.out.mono ?_
  rintro e w2 ⟨rfl, hB, hQ⟩
  have HB := Lib.hid hB
  have HQ := Lib.hid hQ
  have hc : w2.cell? ⟨w.heap.size, 0, none⟩ = some (.int .i64 0) := hB.cell_ rfl
  have hz := hB.frozen 0
  have hlt := hB.lt
  clear hB hQ
  unfold Fails
  refine leaves_cons (f := 95) (args := #[.pointer (some ⟨w.heap.size, 0, none⟩)]) (by simp) (by simp [go_sem]) ?_
  refine (catch_fail w.heap.size 0 x [] _ HB.out).mono ?_
  rintro e u' w'' ⟨rfl, rfl, rfl⟩
  simp [Leaves, settle, results, Tryz.results62, go_sem, hc, hlt]
  exact ⟨w2, HQ.out, rfl⟩

/-- the world behind caught, where the closure has panicked -/
def FellR (g : Nat) (x : Int) (Q : World → Prop) (w' : World) : Prop := ∃ w2, Q w2 ∧ w' = (w2.setCell ⟨g, 0, none⟩ (.int .i64 x)).alloc (.cells #[.int .i64 x] 132)
theorem amount_ok (x : Int) (w : World) (hP : Pows w) (h : -604799 ≤ x ∧ x ≤ 604799) :
    Calls Tryz.prog 96 #[.int .i64 x] w fun e w' => e = .returned (.string ⟨(offTx x).toArray⟩) ∧ Below w.heap.size w w' := by
  have HO := Lib.hid (offPrint_any x w hP)
  rcases off_cases x with ⟨_, he⟩ | ⟨hn, _⟩
  · rw [he] at HO
    clear hP h he
    go_enter Tryz.func96, Tryz.ntmps96
    go_wp2_with fail
    refine HO.out.mono ?_
    rintro e w1 ⟨rfl, hb1⟩
    go_wp2_with fail
    refine (must_yes _ _).mono ?_
    rintro e w3 ⟨rfl, rfl⟩
    go_wp2_with fail
    go_ret
    exact ⟨rfl, hb1⟩
  · exact absurd h hn
theorem amount_no (x : Int) (w : World) (hP : Pows w) (h : ¬ (-604799 ≤ x ∧ x ≤ 604799)) :
    Calls Tryz.prog 96 #[.int .i64 x] w fun e w' => e = Fails 2 ∧ Below w.heap.size w w' := by
  have HO := Lib.hid (offPrint_any x w hP)
  rcases off_cases x with ⟨hn, _⟩ | ⟨_, he⟩
  · exact absurd hn h
  · rw [he] at HO
    clear hP h he
    go_enter Tryz.func96, Tryz.ntmps96
    go_wp2_with fail
    refine HO.out.mono ?_
    rintro e w1 ⟨rfl, hb1⟩
    go_wp2_with fail
    refine (must_no _ _).mono ?_
    rintro e w3 ⟨rfl, rfl⟩
    exact ⟨rfl, rfl, hb1⟩

set_option maxHeartbeats 400000 in
theorem first_any (y : Int) (w : World) : Calls Tryz.prog 147 #[.int .i64 y] w fun e w' => e = .returned (.agg #[.bool true, .int .i64 y, .int .i64 1, .int .i64 1, .int .i64 0, .int .i64 1, .int .i64 0, .int .i64 0]) ∧ Below w.heap.size w w' := by
  go_enter Tryz.func147, Tryz.ntmps147
  go_wp2_with fail
  refine bodyPost_ret (by simp [results, Tryz.results147, go_sem]; rfl) rfl ⟨?_, ?_⟩
  · rfl
  · go_grown

theorem eret_int {k : IntKind} {a b : Int} (h : a = b) : Ending.returned (.int k a) = .returned (.int k b) := by rw [h]
set_option maxHeartbeats 1000000 in
theorem last_any (u : UntilP) (w : World) : Calls Tryz.prog 130 #[.agg u.arr] w fun e w' => e = .returned (.int .i64 (lastN u : Int)) ∧ Below w.heap.size w w' := by
  obtain ⟨is, y, m, ⟨d1, d2, d3⟩, ⟨h1, h2⟩⟩ := u
  simp only [UntilP.arr]
  have HF := Lib.hid (fun W => first_any y W)
  have HL := Lib.hid (show ((h1 = 0 ∧ h2 = 0) ∨ lastN ⟨is, y, m, (d1, d2, d3), (h1, h2)⟩ = 3) ∧ (¬ (h1 = 0 ∧ h2 = 0) ∨ (d1 = 1 ∧ d2 = 0 ∧ d3 = 1) ∨ lastN ⟨is, y, m, (d1, d2, d3), (h1, h2)⟩ = 2) ∧ (¬ (h1 = 0 ∧ h2 = 0) ∨ ¬ (d1 = 1 ∧ d2 = 0 ∧ d3 = 1) ∨ m = 1 ∨ lastN ⟨is, y, m, (d1, d2, d3), (h1, h2)⟩ = 1) ∧ (¬ (h1 = 0 ∧ h2 = 0) ∨ ¬ (d1 = 1 ∧ d2 = 0 ∧ d3 = 1) ∨ m ≠ 1 ∨ lastN ⟨is, y, m, (d1, d2, d3), (h1, h2)⟩ = 0) by
    by_cases a : h1 = 0 ∧ h2 = 0 <;> by_cases b : d1 = 1 ∧ d2 = 0 ∧ d3 = 1 <;> by_cases c : m = 1 <;> simp [lastN, a, b, c])
  generalize lastN ⟨is, y, m, (d1, d2, d3), (h1, h2)⟩ = n at *
  go_enter Tryz.func130, Tryz.ntmps130
  go_wp2_with fail
  refine (HF.out _).mono ?_
  rintro e w1 ⟨rfl, hb1⟩
  have b1 : Blk w1 w.heap.size 53 #[.bool is, .int .i64 y, .int .i64 m, .int .i64 d1, .int .i64 d2, .int .i64 d3, .int .i64 h1, .int .i64 h2] := (Blk.new' w _ _ rfl).below hb1 (by simp)
  have HB := Lib.hid (((Below.refl _ w).alloc (Nat.le_refl _) (.cells #[.bool is, .int .i64 y, .int .i64 m, .int .i64 d1, .int .i64 d2, .int .i64 d3, .int .i64 h1, .int .i64 h2] 53)).trans (hb1.mono (by simp)))
  have q2 : w1.cell? ⟨w.heap.size, 2, none⟩ = some (.int .i64 m) := b1.cell_ rfl
  have q3 : w1.cell? ⟨w.heap.size, 3, none⟩ = some (.int .i64 d1) := b1.cell_ rfl
  have q4 : w1.cell? ⟨w.heap.size, 4, none⟩ = some (.int .i64 d2) := b1.cell_ rfl
  have q5 : w1.cell? ⟨w.heap.size, 5, none⟩ = some (.int .i64 d3) := b1.cell_ rfl
  have q6 : w1.cell? ⟨w.heap.size, 6, none⟩ = some (.int .i64 h1) := b1.cell_ rfl
  have q7 : w1.cell? ⟨w.heap.size, 7, none⟩ = some (.int .i64 h2) := b1.cell_ rfl
  have hlt := b1.lt
  clear b1 hb1
  go_wp2_with fail
  all_goals
    go_ret
    refine ⟨eret_int ?_, rbelow_alloc HB.out _⟩
    have := HL.out
    first | omega | (simp at *; omega)


/-- the listed variables, as the walks of eras ask for them -/
structure ETabs (w : World) : Prop where
  kinds : Kinds w
  weeks : Weeks w
  months : Months w
  pows : Pows w
theorem ETabs.below {w w' : World} (h : ETabs w) (hb : Below w.heap.size w w') : ETabs w' :=
  ⟨h.kinds.below hb, h.weeks.below hb, h.months.below hb, h.pows.below hb⟩

theorem endT_none (u : UntilP) (h : u.is = false) : endT u = [] := by unfold endT untilFs; rw [if_pos h]; rfl
set_option maxRecDepth 100000 in
set_option maxHeartbeats 1000000 in
theorem end_zero (w : World) :
    Calls Tryz.prog 99 #[.agg #[.bool false, .int .i64 0, .int .i64 0, .int .i64 0, .int .i64 0, .int .i64 0, .int .i64 0, .int .i64 0]] w fun e w' => e = .returned (.string ⟨#[]⟩) ∧ Below w.heap.size w w' := by
  go_enter Tryz.func99, Tryz.ntmps99
  go_wp2_with fail
  refine (must_yes _ _).mono ?_
  rintro e w3 ⟨rfl, rfl⟩
  go_wp2_with fail
  go_ret
  exact ⟨rfl, by go_grown⟩
set_option maxRecDepth 100000 in
set_option maxHeartbeats 1000000 in
theorem end_off (y m d1 d2 d3 h1 h2 : Int) (w : World) (h : ¬ (y = 0 ∧ m = 0 ∧ d1 = 0 ∧ d2 = 0 ∧ d3 = 0 ∧ h1 = 0 ∧ h2 = 0)) :
    Calls Tryz.prog 99 #[.agg #[.bool false, .int .i64 y, .int .i64 m, .int .i64 d1, .int .i64 d2, .int .i64 d3, .int .i64 h1, .int .i64 h2]] w fun e w' => e = Fails 2 ∧ Below w.heap.size w w' := by
  go_enter Tryz.func99, Tryz.ntmps99
  go_wp2_with fail
  all_goals
    refine (must_no _ _).mono ?_
    rintro e w3 ⟨rfl, rfl⟩
    exact ⟨rfl, rfl, by go_grown⟩

set_option maxRecDepth 100000 in
set_option maxHeartbeats 2000000 in
theorem end_on (y m d1 d2 d3 h1 h2 : Int) (w : World) (hT : ETabs w) (hr : UntilRight ⟨true, y, m, (d1, d2, d3), (h1, h2)⟩) :
    Calls Tryz.prog 99 #[.agg #[.bool true, .int .i64 y, .int .i64 m, .int .i64 d1, .int .i64 d2, .int .i64 d3, .int .i64 h1, .int .i64 h2]] w fun e w' => e = .returned (.string ⟨(endT ⟨true, y, m, (d1, d2, d3), (h1, h2)⟩).toArray⟩) ∧ Below w.heap.size w w' := by
  have HT := Lib.hid (fun W (hW : Below w.heap.size w W) => hT.below hW)
  have hy := of_decide_eq_true (hr.year rfl)
  obtain ⟨hm1, hm2⟩ := hr.mon rfl
  have hd : checkR d1 d2 d3 = 0 := if_pos (hr.day rfl)
  have hc : clockOk h1 h2 = true := hr.hour rfl
  have HNm := Lib.hid (show ∀ W, Calls Tryz.prog 129 #[.int .i64 y] W fun e w' => e = .returned (.bool true) ∧ W = w' from fun W => by have := enamed_any y W; rwa [hr.year rfl] at this)
  have HDc := Lib.hid (show ∀ W, Below w.heap.size w W → Calls Tryz.prog 85 #[.agg #[.int .i64 d1, .int .i64 d2, .int .i64 d3]] W fun e w' => e = .returned (.int .i64 0) ∧ Below W.heap.size W w' from fun W hW => by have := check_any d1 d2 d3 W (hT.below hW).kinds; rwa [hd] at this)
  have HCc := Lib.hid (show ∀ W, Calls Tryz.prog 87 #[.agg #[.int .i64 h1, .int .i64 h2]] W fun e w' => e = .returned (.int .i64 0) ∧ Below W.heap.size W w' from fun W => by have := clockCheck_any h1 h2 W; rwa [hc] at this)
  have HDp := Lib.hid (show ∀ W, Below w.heap.size w W → Calls Tryz.prog 52 #[.agg #[.int .i64 d1, .int .i64 d2, .int .i64 d3]] W fun e w' => e = .returned (.tuple #[.string ⟨(dayText d1 d2 d3).toArray⟩, .int .i64 0]) ∧ Below W.heap.size W w' from fun W hW => by
    have := print_any d1 d2 d3 W (hT.below hW).kinds (hT.below hW).weeks
    rwa [show printR d1 d2 d3 = (dayText d1 d2 d3, 0) from if_pos (hr.day rfl)] at this)
  have HCp := Lib.hid (show ∀ W, Below w.heap.size w W → Calls Tryz.prog 53 #[.agg #[.int .i64 h1, .int .i64 h2]] W fun e w' => e = .returned (.tuple #[.string ⟨(clockT h1 h2).toArray⟩, .int .i64 0]) ∧ Below W.heap.size W w' from fun W hW => by
    have := clockPrint_any h1 h2 W (hT.below hW).pows
    rwa [show clockPrintR h1 h2 = (clockT h1 h2, 0) from if_pos hc] at this)
  have HMt := Lib.hid (show ∀ W, Below w.heap.size w W → Calls Tryz.prog 61 #[.int .i64 m] W fun e w' => e = .returned (.string ⟨(monthT m).toArray⟩) ∧ Below W.heap.size W w' from fun W hW => monthText_any m W (hT.below hW).months (by simp only at hm1; omega) (by simp only at hm2; omega))
  have HIt := Lib.hid (show ∀ W, Below w.heap.size w W → Calls Tryz.prog 59 #[.int .i64 y] W fun e w' => e = .returned (.string ⟨(Lib.itoa y).toArray⟩) ∧ Below W.heap.size W w' from fun W hW => itoa_any y W (hT.below hW).pows (by simp only at hy; omega) (by simp only at hy; omega))
  have HLa := Lib.hid (show ∀ W, Calls Tryz.prog 130 #[.agg #[.bool true, .int .i64 y, .int .i64 m, .int .i64 d1, .int .i64 d2, .int .i64 d3, .int .i64 h1, .int .i64 h2]] W fun e w' => e = .returned (.int .i64 (lastN ⟨true, y, m, (d1, d2, d3), (h1, h2)⟩ : Int)) ∧ Below W.heap.size W w' from fun W => last_any ⟨true, y, m, (d1, d2, d3), (h1, h2)⟩ W)
  have hlN := lastN_le ⟨true, y, m, (d1, d2, d3), (h1, h2)⟩
  have HE := Lib.hid (show endT ⟨true, y, m, (d1, d2, d3), (h1, h2)⟩ = 32 :: (Lib.itoa y ++ ((if 1 ≤ lastN ⟨true, y, m, (d1, d2, d3), (h1, h2)⟩ then 32 :: monthT m else []) ++ ((if 2 ≤ lastN ⟨true, y, m, (d1, d2, d3), (h1, h2)⟩ then 32 :: dayText d1 d2 d3 else []) ++ (if 3 ≤ lastN ⟨true, y, m, (d1, d2, d3), (h1, h2)⟩ then 32 :: clockT h1 h2 else [])))) by
    unfold endT untilFs
    rw [if_neg (by simp)]
    simp only [List.flatMap_append, List.flatMap_cons, List.flatMap_nil, List.append_nil]
    (repeat' split) <;> simp)
  have hl0 := (year_plain (hr.year rfl)).2
  have hl1 : (monthT m).length ≤ 30 := by have := monthT_len m; omega
  have hl2 : (dayText d1 d2 d3).length ≤ 30 := by have := (day_back (hr.day rfl)).2.2; simp only at this; omega
  have hl3 : (clockT h1 h2).length ≤ 30 := by have := clock_len hc; omega
  simp only at hl0
  generalize lastN ⟨true, y, m, (d1, d2, d3), (h1, h2)⟩ = n at *
  generalize endT ⟨true, y, m, (d1, d2, d3), (h1, h2)⟩ = T at *
  generalize Lib.itoa y = t0 at *
  generalize monthT m = t1 at *
  generalize dayText d1 d2 d3 = t2 at *
  generalize clockT h1 h2 = t3 at *
  simp only at hm1 hm2
  have hB0 := (Below.refl w.heap.size w).alloc (Nat.le_refl _) (.cells #[.bool true, .int .i64 y, .int .i64 m, .int .i64 d1, .int .i64 d2, .int .i64 d3, .int .i64 h1, .int .i64 h2] 53)
  have HB0 := Lib.hid (And.intro (Blk.new' w 53 #[.bool true, .int .i64 y, .int .i64 m, .int .i64 d1, .int .i64 d2, .int .i64 d3, .int .i64 h1, .int .i64 h2] rfl) hB0)
  clear hT hr hy hd hc hB0
  go_enter Tryz.func99, Tryz.ntmps99
  go_wp2_with fail
  refine (HNm.out _).mono ?_
  rintro e w1 ⟨rfl, rfl⟩
  go_wp2_with fail
  refine (HDc.out _ HB0.out.2).mono ?_
  rintro e w1 ⟨rfl, hb1⟩
  have HB1 := Lib.hid (And.intro (HB0.out.1.below hb1 HB0.out.1.lt) (HB0.out.2.trans (hb1.mono HB0.out.2.size)))
  clear hb1 HB0 HDc HNm
  obtain ⟨q0, q1, q2, q3, q4, q5, q6, q7⟩ : w1.cell? ⟨w.heap.size, 0, none⟩ = some (.bool true) ∧ w1.cell? ⟨w.heap.size, 1, none⟩ = some (.int .i64 y) ∧ w1.cell? ⟨w.heap.size, 2, none⟩ = some (.int .i64 m) ∧ w1.cell? ⟨w.heap.size, 3, none⟩ = some (.int .i64 d1) ∧ w1.cell? ⟨w.heap.size, 4, none⟩ = some (.int .i64 d2) ∧ w1.cell? ⟨w.heap.size, 5, none⟩ = some (.int .i64 d3) ∧ w1.cell? ⟨w.heap.size, 6, none⟩ = some (.int .i64 h1) ∧ w1.cell? ⟨w.heap.size, 7, none⟩ = some (.int .i64 h2) := ⟨HB1.out.1.cell_ rfl, HB1.out.1.cell_ rfl, HB1.out.1.cell_ rfl, HB1.out.1.cell_ rfl, HB1.out.1.cell_ rfl, HB1.out.1.cell_ rfl, HB1.out.1.cell_ rfl, HB1.out.1.cell_ rfl⟩
  go_wp2_with fail
  refine (HCc.out _).mono ?_
  rintro e w2 ⟨rfl, hb2⟩
  have HB2 := Lib.hid (And.intro (HB1.out.1.below hb2 HB1.out.1.lt) (HB1.out.2.trans (hb2.mono HB1.out.2.size)))
  clear hb2 HB1 HCc q0 q1 q2 q3 q4 q5 q6 q7
  obtain ⟨q0, q1, q2, q3, q4, q5, q6, q7⟩ : w2.cell? ⟨w.heap.size, 0, none⟩ = some (.bool true) ∧ w2.cell? ⟨w.heap.size, 1, none⟩ = some (.int .i64 y) ∧ w2.cell? ⟨w.heap.size, 2, none⟩ = some (.int .i64 m) ∧ w2.cell? ⟨w.heap.size, 3, none⟩ = some (.int .i64 d1) ∧ w2.cell? ⟨w.heap.size, 4, none⟩ = some (.int .i64 d2) ∧ w2.cell? ⟨w.heap.size, 5, none⟩ = some (.int .i64 d3) ∧ w2.cell? ⟨w.heap.size, 6, none⟩ = some (.int .i64 h1) ∧ w2.cell? ⟨w.heap.size, 7, none⟩ = some (.int .i64 h2) := ⟨HB2.out.1.cell_ rfl, HB2.out.1.cell_ rfl, HB2.out.1.cell_ rfl, HB2.out.1.cell_ rfl, HB2.out.1.cell_ rfl, HB2.out.1.cell_ rfl, HB2.out.1.cell_ rfl, HB2.out.1.cell_ rfl⟩
  go_wp2_with fail
  refine (must_yes _ _).mono ?_
  rintro e w3 ⟨rfl, rfl⟩
  go_wp2_with fail
  refine (HLa.out _).mono ?_
  rintro e w3 ⟨rfl, hb3⟩
  have HB3 := Lib.hid (And.intro (HB2.out.1.below hb3 HB2.out.1.lt) (HB2.out.2.trans (hb3.mono HB2.out.2.size)))
  clear hb3 HB2 HLa q0 q1 q2 q3 q4 q5 q6 q7
  -- the switch
  rcases (by omega : n = 3 ∨ n = 2 ∨ n = 1 ∨ n = 0) with rfl | rfl | rfl | rfl
  · have HEE := Lib.hid (by simpa using HE.out)
    clear HE hlN
    obtain ⟨q0, q1, q2, q3, q4, q5, q6, q7⟩ : w3.cell? ⟨w.heap.size, 0, none⟩ = some (.bool true) ∧ w3.cell? ⟨w.heap.size, 1, none⟩ = some (.int .i64 y) ∧ w3.cell? ⟨w.heap.size, 2, none⟩ = some (.int .i64 m) ∧ w3.cell? ⟨w.heap.size, 3, none⟩ = some (.int .i64 d1) ∧ w3.cell? ⟨w.heap.size, 4, none⟩ = some (.int .i64 d2) ∧ w3.cell? ⟨w.heap.size, 5, none⟩ = some (.int .i64 d3) ∧ w3.cell? ⟨w.heap.size, 6, none⟩ = some (.int .i64 h1) ∧ w3.cell? ⟨w.heap.size, 7, none⟩ = some (.int .i64 h2) := ⟨HB3.out.1.cell_ rfl, HB3.out.1.cell_ rfl, HB3.out.1.cell_ rfl, HB3.out.1.cell_ rfl, HB3.out.1.cell_ rfl, HB3.out.1.cell_ rfl, HB3.out.1.cell_ rfl, HB3.out.1.cell_ rfl⟩
    go_wp2_with fail
    refine (HCp.out _ HB3.out.2).mono ?_
    rintro e w4 ⟨rfl, hb⟩
    have HB4 := Lib.hid (And.intro (HB3.out.1.below hb HB3.out.1.lt) (HB3.out.2.trans (hb.mono HB3.out.2.size)))
    clear hb HB3 HCp q0 q1 q2 q3 q4 q5 q6 q7
    go_wp2_with fail
    refine (needStr_ok _ _).mono ?_
    rintro e w9 ⟨rfl, rfl⟩
    obtain ⟨q0, q1, q2, q3, q4, q5, q6, q7⟩ : w4.cell? ⟨w.heap.size, 0, none⟩ = some (.bool true) ∧ w4.cell? ⟨w.heap.size, 1, none⟩ = some (.int .i64 y) ∧ w4.cell? ⟨w.heap.size, 2, none⟩ = some (.int .i64 m) ∧ w4.cell? ⟨w.heap.size, 3, none⟩ = some (.int .i64 d1) ∧ w4.cell? ⟨w.heap.size, 4, none⟩ = some (.int .i64 d2) ∧ w4.cell? ⟨w.heap.size, 5, none⟩ = some (.int .i64 d3) ∧ w4.cell? ⟨w.heap.size, 6, none⟩ = some (.int .i64 h1) ∧ w4.cell? ⟨w.heap.size, 7, none⟩ = some (.int .i64 h2) := ⟨HB4.out.1.cell_ rfl, HB4.out.1.cell_ rfl, HB4.out.1.cell_ rfl, HB4.out.1.cell_ rfl, HB4.out.1.cell_ rfl, HB4.out.1.cell_ rfl, HB4.out.1.cell_ rfl, HB4.out.1.cell_ rfl⟩
    go_wp2_with fail
    refine (HDp.out _ HB4.out.2).mono ?_
    rintro e w5 ⟨rfl, hb⟩
    have HB5 := Lib.hid (And.intro (HB4.out.1.below hb HB4.out.1.lt) (HB4.out.2.trans (hb.mono HB4.out.2.size)))
    clear hb HB4 HDp q0 q1 q2 q3 q4 q5 q6 q7
    go_wp2_with fail
    refine (needStr_ok _ _).mono ?_
    rintro e w9 ⟨rfl, rfl⟩
    obtain ⟨q0, q1, q2, q3, q4, q5, q6, q7⟩ : w5.cell? ⟨w.heap.size, 0, none⟩ = some (.bool true) ∧ w5.cell? ⟨w.heap.size, 1, none⟩ = some (.int .i64 y) ∧ w5.cell? ⟨w.heap.size, 2, none⟩ = some (.int .i64 m) ∧ w5.cell? ⟨w.heap.size, 3, none⟩ = some (.int .i64 d1) ∧ w5.cell? ⟨w.heap.size, 4, none⟩ = some (.int .i64 d2) ∧ w5.cell? ⟨w.heap.size, 5, none⟩ = some (.int .i64 d3) ∧ w5.cell? ⟨w.heap.size, 6, none⟩ = some (.int .i64 h1) ∧ w5.cell? ⟨w.heap.size, 7, none⟩ = some (.int .i64 h2) := ⟨HB5.out.1.cell_ rfl, HB5.out.1.cell_ rfl, HB5.out.1.cell_ rfl, HB5.out.1.cell_ rfl, HB5.out.1.cell_ rfl, HB5.out.1.cell_ rfl, HB5.out.1.cell_ rfl, HB5.out.1.cell_ rfl⟩
    go_wp2_with fail
    refine (HMt.out _ HB5.out.2).mono ?_
    rintro e w6 ⟨rfl, hb⟩
    have HB6 := Lib.hid (And.intro (HB5.out.1.below hb HB5.out.1.lt) (HB5.out.2.trans (hb.mono HB5.out.2.size)))
    clear hb HB5 HMt q0 q1 q2 q3 q4 q5 q6 q7
    obtain ⟨q0, q1, q2, q3, q4, q5, q6, q7⟩ : w6.cell? ⟨w.heap.size, 0, none⟩ = some (.bool true) ∧ w6.cell? ⟨w.heap.size, 1, none⟩ = some (.int .i64 y) ∧ w6.cell? ⟨w.heap.size, 2, none⟩ = some (.int .i64 m) ∧ w6.cell? ⟨w.heap.size, 3, none⟩ = some (.int .i64 d1) ∧ w6.cell? ⟨w.heap.size, 4, none⟩ = some (.int .i64 d2) ∧ w6.cell? ⟨w.heap.size, 5, none⟩ = some (.int .i64 d3) ∧ w6.cell? ⟨w.heap.size, 6, none⟩ = some (.int .i64 h1) ∧ w6.cell? ⟨w.heap.size, 7, none⟩ = some (.int .i64 h2) := ⟨HB6.out.1.cell_ rfl, HB6.out.1.cell_ rfl, HB6.out.1.cell_ rfl, HB6.out.1.cell_ rfl, HB6.out.1.cell_ rfl, HB6.out.1.cell_ rfl, HB6.out.1.cell_ rfl, HB6.out.1.cell_ rfl⟩
    go_wp2_with fail
    refine (HIt.out _ HB6.out.2).mono ?_
    rintro e w7 ⟨rfl, hb⟩
    have HB7 := Lib.hid (And.intro (HB6.out.1.below hb HB6.out.1.lt) (HB6.out.2.trans (hb.mono HB6.out.2.size)))
    clear hb HB6 HIt q0 q1 q2 q3 q4 q5 q6 q7
    go_wp2_with fail
    go_ret
    exact ⟨by rw [HEE.out]; exact congrArg Ending.returned (congrArg Value.string (by apply ByteArray.ext; simp)), HB7.out.2⟩
  · have HEE := Lib.hid (by simpa using HE.out)
    clear HE hlN
    obtain ⟨q0, q1, q2, q3, q4, q5, q6, q7⟩ : w3.cell? ⟨w.heap.size, 0, none⟩ = some (.bool true) ∧ w3.cell? ⟨w.heap.size, 1, none⟩ = some (.int .i64 y) ∧ w3.cell? ⟨w.heap.size, 2, none⟩ = some (.int .i64 m) ∧ w3.cell? ⟨w.heap.size, 3, none⟩ = some (.int .i64 d1) ∧ w3.cell? ⟨w.heap.size, 4, none⟩ = some (.int .i64 d2) ∧ w3.cell? ⟨w.heap.size, 5, none⟩ = some (.int .i64 d3) ∧ w3.cell? ⟨w.heap.size, 6, none⟩ = some (.int .i64 h1) ∧ w3.cell? ⟨w.heap.size, 7, none⟩ = some (.int .i64 h2) := ⟨HB3.out.1.cell_ rfl, HB3.out.1.cell_ rfl, HB3.out.1.cell_ rfl, HB3.out.1.cell_ rfl, HB3.out.1.cell_ rfl, HB3.out.1.cell_ rfl, HB3.out.1.cell_ rfl, HB3.out.1.cell_ rfl⟩
    go_wp2_with fail
    refine (HDp.out _ HB3.out.2).mono ?_
    rintro e w4 ⟨rfl, hb⟩
    have HB4 := Lib.hid (And.intro (HB3.out.1.below hb HB3.out.1.lt) (HB3.out.2.trans (hb.mono HB3.out.2.size)))
    clear hb HB3 HDp q0 q1 q2 q3 q4 q5 q6 q7
    go_wp2_with fail
    refine (needStr_ok _ _).mono ?_
    rintro e w9 ⟨rfl, rfl⟩
    obtain ⟨q0, q1, q2, q3, q4, q5, q6, q7⟩ : w4.cell? ⟨w.heap.size, 0, none⟩ = some (.bool true) ∧ w4.cell? ⟨w.heap.size, 1, none⟩ = some (.int .i64 y) ∧ w4.cell? ⟨w.heap.size, 2, none⟩ = some (.int .i64 m) ∧ w4.cell? ⟨w.heap.size, 3, none⟩ = some (.int .i64 d1) ∧ w4.cell? ⟨w.heap.size, 4, none⟩ = some (.int .i64 d2) ∧ w4.cell? ⟨w.heap.size, 5, none⟩ = some (.int .i64 d3) ∧ w4.cell? ⟨w.heap.size, 6, none⟩ = some (.int .i64 h1) ∧ w4.cell? ⟨w.heap.size, 7, none⟩ = some (.int .i64 h2) := ⟨HB4.out.1.cell_ rfl, HB4.out.1.cell_ rfl, HB4.out.1.cell_ rfl, HB4.out.1.cell_ rfl, HB4.out.1.cell_ rfl, HB4.out.1.cell_ rfl, HB4.out.1.cell_ rfl, HB4.out.1.cell_ rfl⟩
    go_wp2_with fail
    refine (HMt.out _ HB4.out.2).mono ?_
    rintro e w5 ⟨rfl, hb⟩
    have HB5 := Lib.hid (And.intro (HB4.out.1.below hb HB4.out.1.lt) (HB4.out.2.trans (hb.mono HB4.out.2.size)))
    clear hb HB4 HMt q0 q1 q2 q3 q4 q5 q6 q7
    obtain ⟨q0, q1, q2, q3, q4, q5, q6, q7⟩ : w5.cell? ⟨w.heap.size, 0, none⟩ = some (.bool true) ∧ w5.cell? ⟨w.heap.size, 1, none⟩ = some (.int .i64 y) ∧ w5.cell? ⟨w.heap.size, 2, none⟩ = some (.int .i64 m) ∧ w5.cell? ⟨w.heap.size, 3, none⟩ = some (.int .i64 d1) ∧ w5.cell? ⟨w.heap.size, 4, none⟩ = some (.int .i64 d2) ∧ w5.cell? ⟨w.heap.size, 5, none⟩ = some (.int .i64 d3) ∧ w5.cell? ⟨w.heap.size, 6, none⟩ = some (.int .i64 h1) ∧ w5.cell? ⟨w.heap.size, 7, none⟩ = some (.int .i64 h2) := ⟨HB5.out.1.cell_ rfl, HB5.out.1.cell_ rfl, HB5.out.1.cell_ rfl, HB5.out.1.cell_ rfl, HB5.out.1.cell_ rfl, HB5.out.1.cell_ rfl, HB5.out.1.cell_ rfl, HB5.out.1.cell_ rfl⟩
    go_wp2_with fail
    refine (HIt.out _ HB5.out.2).mono ?_
    rintro e w6 ⟨rfl, hb⟩
    have HB6 := Lib.hid (And.intro (HB5.out.1.below hb HB5.out.1.lt) (HB5.out.2.trans (hb.mono HB5.out.2.size)))
    clear hb HB5 HIt q0 q1 q2 q3 q4 q5 q6 q7
    go_wp2_with fail
    go_ret
    exact ⟨by rw [HEE.out]; exact congrArg Ending.returned (congrArg Value.string (by apply ByteArray.ext; simp)), HB6.out.2⟩
  · have HEE := Lib.hid (by simpa using HE.out)
    clear HE hlN
    obtain ⟨q0, q1, q2, q3, q4, q5, q6, q7⟩ : w3.cell? ⟨w.heap.size, 0, none⟩ = some (.bool true) ∧ w3.cell? ⟨w.heap.size, 1, none⟩ = some (.int .i64 y) ∧ w3.cell? ⟨w.heap.size, 2, none⟩ = some (.int .i64 m) ∧ w3.cell? ⟨w.heap.size, 3, none⟩ = some (.int .i64 d1) ∧ w3.cell? ⟨w.heap.size, 4, none⟩ = some (.int .i64 d2) ∧ w3.cell? ⟨w.heap.size, 5, none⟩ = some (.int .i64 d3) ∧ w3.cell? ⟨w.heap.size, 6, none⟩ = some (.int .i64 h1) ∧ w3.cell? ⟨w.heap.size, 7, none⟩ = some (.int .i64 h2) := ⟨HB3.out.1.cell_ rfl, HB3.out.1.cell_ rfl, HB3.out.1.cell_ rfl, HB3.out.1.cell_ rfl, HB3.out.1.cell_ rfl, HB3.out.1.cell_ rfl, HB3.out.1.cell_ rfl, HB3.out.1.cell_ rfl⟩
    go_wp2_with fail
    refine (HMt.out _ HB3.out.2).mono ?_
    rintro e w4 ⟨rfl, hb⟩
    have HB4 := Lib.hid (And.intro (HB3.out.1.below hb HB3.out.1.lt) (HB3.out.2.trans (hb.mono HB3.out.2.size)))
    clear hb HB3 HMt q0 q1 q2 q3 q4 q5 q6 q7
    obtain ⟨q0, q1, q2, q3, q4, q5, q6, q7⟩ : w4.cell? ⟨w.heap.size, 0, none⟩ = some (.bool true) ∧ w4.cell? ⟨w.heap.size, 1, none⟩ = some (.int .i64 y) ∧ w4.cell? ⟨w.heap.size, 2, none⟩ = some (.int .i64 m) ∧ w4.cell? ⟨w.heap.size, 3, none⟩ = some (.int .i64 d1) ∧ w4.cell? ⟨w.heap.size, 4, none⟩ = some (.int .i64 d2) ∧ w4.cell? ⟨w.heap.size, 5, none⟩ = some (.int .i64 d3) ∧ w4.cell? ⟨w.heap.size, 6, none⟩ = some (.int .i64 h1) ∧ w4.cell? ⟨w.heap.size, 7, none⟩ = some (.int .i64 h2) := ⟨HB4.out.1.cell_ rfl, HB4.out.1.cell_ rfl, HB4.out.1.cell_ rfl, HB4.out.1.cell_ rfl, HB4.out.1.cell_ rfl, HB4.out.1.cell_ rfl, HB4.out.1.cell_ rfl, HB4.out.1.cell_ rfl⟩
    go_wp2_with fail
    refine (HIt.out _ HB4.out.2).mono ?_
    rintro e w5 ⟨rfl, hb⟩
    have HB5 := Lib.hid (And.intro (HB4.out.1.below hb HB4.out.1.lt) (HB4.out.2.trans (hb.mono HB4.out.2.size)))
    clear hb HB4 HIt q0 q1 q2 q3 q4 q5 q6 q7
    go_wp2_with fail
    go_ret
    exact ⟨by rw [HEE.out]; exact congrArg Ending.returned (congrArg Value.string (by apply ByteArray.ext; simp)), HB5.out.2⟩
  · have HEE := Lib.hid (by simpa using HE.out)
    clear HE hlN
    obtain ⟨q0, q1, q2, q3, q4, q5, q6, q7⟩ : w3.cell? ⟨w.heap.size, 0, none⟩ = some (.bool true) ∧ w3.cell? ⟨w.heap.size, 1, none⟩ = some (.int .i64 y) ∧ w3.cell? ⟨w.heap.size, 2, none⟩ = some (.int .i64 m) ∧ w3.cell? ⟨w.heap.size, 3, none⟩ = some (.int .i64 d1) ∧ w3.cell? ⟨w.heap.size, 4, none⟩ = some (.int .i64 d2) ∧ w3.cell? ⟨w.heap.size, 5, none⟩ = some (.int .i64 d3) ∧ w3.cell? ⟨w.heap.size, 6, none⟩ = some (.int .i64 h1) ∧ w3.cell? ⟨w.heap.size, 7, none⟩ = some (.int .i64 h2) := ⟨HB3.out.1.cell_ rfl, HB3.out.1.cell_ rfl, HB3.out.1.cell_ rfl, HB3.out.1.cell_ rfl, HB3.out.1.cell_ rfl, HB3.out.1.cell_ rfl, HB3.out.1.cell_ rfl, HB3.out.1.cell_ rfl⟩
    go_wp2_with fail
    refine (HIt.out _ HB3.out.2).mono ?_
    rintro e w4 ⟨rfl, hb⟩
    have HB4 := Lib.hid (And.intro (HB3.out.1.below hb HB3.out.1.lt) (HB3.out.2.trans (hb.mono HB3.out.2.size)))
    clear hb HB3 HIt q0 q1 q2 q3 q4 q5 q6 q7
    go_wp2_with fail
    go_ret
    exact ⟨by rw [HEE.out]; exact congrArg Ending.returned (congrArg Value.string (by apply ByteArray.ext; simp)), HB4.out.2⟩

set_option maxHeartbeats 1000000 in
theorem end_no (y m d1 d2 d3 h1 h2 : Int) (w : World) (hT : ETabs w) (hr : ¬ UntilRight ⟨true, y, m, (d1, d2, d3), (h1, h2)⟩) :
    Calls Tryz.prog 99 #[.agg #[.bool true, .int .i64 y, .int .i64 m, .int .i64 d1, .int .i64 d2, .int .i64 d3, .int .i64 h1, .int .i64 h2]] w fun e w' => e = Fails 2 ∧ Below w.heap.size w w' := by
  have HDc := Lib.hid (fun W (hW : Below w.heap.size w W) => check_any d1 d2 d3 W (hT.below hW).kinds)
  have HCc := Lib.hid (fun W => clockCheck_any h1 h2 W)
  have hB0 := (Below.refl w.heap.size w).alloc (Nat.le_refl _) (.cells #[.bool true, .int .i64 y, .int .i64 m, .int .i64 d1, .int .i64 d2, .int .i64 d3, .int .i64 h1, .int .i64 h2] 53)
  have HB0 := Lib.hid (And.intro (Blk.new' w 53 #[.bool true, .int .i64 y, .int .i64 m, .int .i64 d1, .int .i64 d2, .int .i64 d3, .int .i64 h1, .int .i64 h2] rfl) hB0)
  clear hT hB0
  have HNm := Lib.hid (fun W => enamed_any y W)
  by_cases hy : namedB y = false
  · rw [hy] at HNm
    clear hy hr HDc HCc
    go_enter Tryz.func99, Tryz.ntmps99
    go_wp2_with fail
    refine (HNm.out _).mono ?_
    rintro e w1 ⟨rfl, rfl⟩
    go_wp2_with fail
    refine (must_no _ _).mono ?_
    rintro e w3 ⟨rfl, rfl⟩
    exact ⟨rfl, rfl, HB0.out.2⟩
  have hy2 : namedB y = true := by simpa using hy
  rw [hy2] at HNm
  by_cases hm : 1 ≤ m ∧ m ≤ 12
  case neg =>
    rcases (by omega : m < 1 ∨ (¬ m < 1 ∧ 12 < m)) with h | ⟨h, h'⟩
    all_goals
      clear hy hy2 hr HDc HCc hm
      go_enter Tryz.func99, Tryz.ntmps99
      go_wp2_with fail
      refine (HNm.out _).mono ?_
      rintro e w1 ⟨rfl, rfl⟩
      go_wp2_with fail
      refine (must_no _ _).mono ?_
      rintro e w3 ⟨rfl, rfl⟩
      exact ⟨rfl, rfl, HB0.out.2⟩
  obtain ⟨hm1, hm2⟩ := hm
  by_cases hd : rightDay d1 d2 d3 = true
  case neg =>
    replace HDc := Lib.hid (show ∀ W, Below w.heap.size w W → Calls Tryz.prog 85 #[.agg #[.int .i64 d1, .int .i64 d2, .int .i64 d3]] W fun e w' => e = .returned (.int .i64 2) ∧ Below W.heap.size W w' from fun W hW => by have := HDc.out W hW; rwa [show checkR d1 d2 d3 = 2 from if_neg hd] at this)
    clear hy hy2 hr HCc hd
    go_enter Tryz.func99, Tryz.ntmps99
    go_wp2_with fail
    refine (HNm.out _).mono ?_
    rintro e w1 ⟨rfl, rfl⟩
    go_wp2_with fail
    refine (HDc.out _ HB0.out.2).mono ?_
    rintro e w1 ⟨rfl, hb1⟩
    have HB1 := Lib.hid (HB0.out.2.trans (hb1.mono HB0.out.2.size))
    clear hb1 HB0
    go_wp2_with fail
    refine (must_no _ _).mono ?_
    rintro e w3 ⟨rfl, rfl⟩
    exact ⟨rfl, rfl, HB1.out⟩
  replace HDc := Lib.hid (show ∀ W, Below w.heap.size w W → Calls Tryz.prog 85 #[.agg #[.int .i64 d1, .int .i64 d2, .int .i64 d3]] W fun e w' => e = .returned (.int .i64 0) ∧ Below W.heap.size W w' from fun W hW => by have := HDc.out W hW; rwa [show checkR d1 d2 d3 = 0 from if_pos hd] at this)
  have hc : clockOk h1 h2 = false := by
    cases hc : clockOk h1 h2 with
    | false => rfl
    | true => exact absurd ⟨(fun h => by cases h), fun _ => hy2, fun _ => ⟨hm1, hm2⟩, fun _ => hd, fun _ => hc⟩ hr
  replace HCc := Lib.hid (show ∀ W, Calls Tryz.prog 87 #[.agg #[.int .i64 h1, .int .i64 h2]] W fun e w' => e = .returned (.int .i64 2) ∧ Below W.heap.size W w' from fun W => by have := HCc.out W; rwa [hc] at this)
  clear hy hy2 hr hd hc
  go_enter Tryz.func99, Tryz.ntmps99
  go_wp2_with fail
  refine (HNm.out _).mono ?_
  rintro e w1 ⟨rfl, rfl⟩
  go_wp2_with fail
  refine (HDc.out _ HB0.out.2).mono ?_
  rintro e w1 ⟨rfl, hb1⟩
  have HB1 := Lib.hid (And.intro (HB0.out.1.below hb1 HB0.out.1.lt) (HB0.out.2.trans (hb1.mono HB0.out.2.size)))
  clear hb1 HB0
  obtain ⟨q0, q1, q2, q3, q4, q5, q6, q7⟩ : w1.cell? ⟨w.heap.size, 0, none⟩ = some (.bool true) ∧ w1.cell? ⟨w.heap.size, 1, none⟩ = some (.int .i64 y) ∧ w1.cell? ⟨w.heap.size, 2, none⟩ = some (.int .i64 m) ∧ w1.cell? ⟨w.heap.size, 3, none⟩ = some (.int .i64 d1) ∧ w1.cell? ⟨w.heap.size, 4, none⟩ = some (.int .i64 d2) ∧ w1.cell? ⟨w.heap.size, 5, none⟩ = some (.int .i64 d3) ∧ w1.cell? ⟨w.heap.size, 6, none⟩ = some (.int .i64 h1) ∧ w1.cell? ⟨w.heap.size, 7, none⟩ = some (.int .i64 h2) := ⟨HB1.out.1.cell_ rfl, HB1.out.1.cell_ rfl, HB1.out.1.cell_ rfl, HB1.out.1.cell_ rfl, HB1.out.1.cell_ rfl, HB1.out.1.cell_ rfl, HB1.out.1.cell_ rfl, HB1.out.1.cell_ rfl⟩
  go_wp2_with fail
  refine (HCc.out _).mono ?_
  rintro e w2 ⟨rfl, hb2⟩
  have HB2 := Lib.hid (HB1.out.2.trans (hb2.mono HB1.out.2.size))
  clear hb2 HB1 q0 q1 q2 q3 q4 q5 q6 q7
  go_wp2_with fail
  refine (must_no _ _).mono ?_
  rintro e w3 ⟨rfl, rfl⟩
  exact ⟨rfl, rfl, HB2.out⟩

theorem untilRight_off (y m d1 d2 d3 h1 h2 : Int) : UntilRight ⟨false, y, m, (d1, d2, d3), (h1, h2)⟩ ↔ (y = 0 ∧ m = 0 ∧ d1 = 0 ∧ d2 = 0 ∧ d3 = 0 ∧ h1 = 0 ∧ h2 = 0) := by
  constructor
  · intro h
    have := h.no rfl
    cases this
    exact ⟨rfl, rfl, rfl, rfl, rfl, rfl, rfl⟩
  · rintro ⟨rfl, rfl, rfl, rfl, rfl, rfl, rfl⟩
    exact ⟨fun _ => rfl, (fun h => by cases h), (fun h => by cases h), (fun h => by cases h), (fun h => by cases h)⟩
theorem end_yes (u : UntilP) (w : World) (hT : ETabs w) (hr : UntilRight u) : Calls Tryz.prog 99 #[.agg u.arr] w fun e w' => e = .returned (.string ⟨(endT u).toArray⟩) ∧ Below w.heap.size w w' := by
  obtain ⟨is, y, m, ⟨d1, d2, d3⟩, ⟨h1, h2⟩⟩ := u
  cases is
  · obtain ⟨rfl, rfl, rfl, rfl, rfl, rfl, rfl⟩ := (untilRight_off _ _ _ _ _ _ _).1 hr
    rw [endT_none _ rfl]
    exact end_zero w
  · exact end_on y m d1 d2 d3 h1 h2 w hT hr
theorem end_fail (u : UntilP) (w : World) (hT : ETabs w) (hr : ¬ UntilRight u) : Calls Tryz.prog 99 #[.agg u.arr] w fun e w' => e = Fails 2 ∧ Below w.heap.size w w' := by
  obtain ⟨is, y, m, ⟨d1, d2, d3⟩, ⟨h1, h2⟩⟩ := u
  cases is
  · exact end_off y m d1 d2 d3 h1 h2 w fun h => hr ((untilRight_off _ _ _ _ _ _ _).2 h)
  · exact end_no y m d1 d2 d3 h1 h2 w hT hr
end Go.Proofs.YtmcgbjjcpcgcfaaGreatDoor
