/-
  Eras as plain data: what is read out of fields, what is printed; what is printed is read again.
  Eras as plain data: fields left out, fields that are wrong, eras without a line.
  Small functions of eraline: must, need, named, letter, written, year: what each returns, or with what it panics.
  eraline.written and eraline.year: what each returns, or with what it panics.
  eraline.year: what it returns, or with what it panics.
  eraline.caught: the deferred closure in both modes; caught over a closure that returns or panics.
  eraline.amount, first, last: what each returns, or with what it panics.
  eraline.end: what it returns, or with what it panics.
-/
import Derived.Test.YtmcgbjjcpcgcfaaGreatDoorOffAll
import Derived.Lib.Split
import Derived.Test.YtmcgbjjcpcgcfaaGreatDoorShelf3
import Derived.Recover
import Derived.Defers
import Derived.Outline
set_option linter.unusedVariables false
namespace Go.Proofs.YtmcgbjjcpcgcfaaGreatDoor
open Go.RowKit

structure UntilP where
  is : Bool
  year : Int
  mon : Int
  day : Int × Int × Int
  hour : Int × Int
structure EraP where
  off : Int
  kind : Int
  save : Int
  set : List UInt8
  fmt : List UInt8
  til : UntilP
def UntilP.none : UntilP := ⟨false, 0, 0, (0, 0, 0), (0, 0)⟩
def EraP.none : EraP := ⟨0, 0, 0, [], [], UntilP.none⟩
def UntilP.cells (u : UntilP) : List Value := [.bool u.is, .int .i64 u.year, .int .i64 u.mon, .int .i64 u.day.1, .int .i64 u.day.2.1, .int .i64 u.day.2.2, .int .i64 u.hour.1, .int .i64 u.hour.2]
def EraP.cells (e : EraP) : Array Value := #[.int .i64 e.off, .int .i64 e.kind, .int .i64 e.save, .string ⟨e.set.toArray⟩, .string ⟨e.fmt.toArray⟩, .bool e.til.is, .int .i64 e.til.year, .int .i64 e.til.mon, .int .i64 e.til.day.1, .int .i64 e.til.day.2.1, .int .i64 e.til.day.2.2, .int .i64 e.til.hour.1, .int .i64 e.til.hour.2]
def UntilP.arr (u : UntilP) : Array Value := #[.bool u.is, .int .i64 u.year, .int .i64 u.mon, .int .i64 u.day.1, .int .i64 u.day.2.1, .int .i64 u.day.2.2, .int .i64 u.hour.1, .int .i64 u.hour.2]
/-- can a FORMAT be written -/
def fmtC (c : UInt8) : Bool := decide (33 ≤ c.toNat ∧ c.toNat ≤ 126 ∧ c.toNat ≠ 34 ∧ c.toNat ≠ 35)
def fmtB (l : List UInt8) : Bool := decide (1 ≤ l.length ∧ l.length ≤ 20) && l.all fmtC
/-- how many fields stand behind the year -/
def lastN (u : UntilP) : Nat := if u.hour ≠ (0, 0) then 3 else if u.day ≠ (1, 0, 1) then 2 else if u.mon ≠ 1 then 1 else 0
def untilFs (u : UntilP) : List (List UInt8) := if u.is = false then [] else
  [Lib.itoa u.year] ++ (if 1 ≤ lastN u then [monthT u.mon] else []) ++ (if 2 ≤ lastN u then [dayText u.day.1 u.day.2.1 u.day.2.2] else []) ++ (if 3 ≤ lastN u then [clockT u.hour.1 u.hour.2] else [])
def untilOk (u : UntilP) : Bool := if u.is = false then decide (u.year = 0 ∧ u.mon = 0 ∧ u.day = (0, 0, 0) ∧ u.hour = (0, 0)) else namedB u.year && decide (1 ≤ u.mon ∧ u.mon ≤ 12) && rightDay u.day.1 u.day.2.1 u.day.2.2 && clockOk u.hour.1 u.hour.2
def eraOk (e : EraP) : Bool := decide (-604799 ≤ e.off ∧ e.off ≤ 604799) && decide (0 ≤ e.kind ∧ e.kind ≤ 2) && (decide (e.kind = 1) || decide (e.save = 0)) && (decide (e.kind = 2) == setB e.set) && (decide (e.kind = 2) || decide (e.set = [])) && fmtB e.fmt && (decide (e.kind ≠ 1) || decide (-604799 ≤ e.save ∧ e.save ≤ 604799)) && untilOk e.til
def byT (e : EraP) : List UInt8 := if e.kind = 1 then offTx e.save else if e.kind = 2 then e.set else [45]
def eraFs (e : EraP) : List (List UInt8) := [offTx e.off, byT e, e.fmt] ++ untilFs e.til
def eraT (e : EraP) : List UInt8 := joinS (eraFs e)
def eraPrintR (e : EraP) : List UInt8 × Int := if eraOk e = true then (eraT e, 0) else ([], 2)

structure UntilRight (u : UntilP) : Prop where
  no : u.is = false → u = UntilP.none
  year : u.is = true → namedB u.year = true
  mon : u.is = true → 1 ≤ u.mon ∧ u.mon ≤ 12
  day : u.is = true → rightDay u.day.1 u.day.2.1 u.day.2.2 = true
  hour : u.is = true → clockOk u.hour.1 u.hour.2 = true
structure EraRight (e : EraP) : Prop where
  off : -604799 ≤ e.off ∧ e.off ≤ 604799
  kind : 0 ≤ e.kind ∧ e.kind ≤ 2
  save0 : e.kind ≠ 1 → e.save = 0
  save1 : e.kind = 1 → -604799 ≤ e.save ∧ e.save ≤ 604799
  set2 : e.kind = 2 → setB e.set = true
  set0 : e.kind ≠ 2 → e.set = []
  fmt : fmtB e.fmt = true
  til : UntilRight e.til
theorem untilOk_iff (u : UntilP) : untilOk u = true ↔ UntilRight u := by
  obtain ⟨is, y, m, ⟨d1, d2, d3⟩, ⟨h1, h2⟩⟩ := u
  cases is
  · simp only [untilOk, if_true, decide_eq_true_eq]
    constructor
    · rintro ⟨rfl, rfl, hd, hh⟩
      cases hd; cases hh
      exact ⟨fun _ => rfl, (fun h => by cases h), (fun h => by cases h), (fun h => by cases h), (fun h => by cases h)⟩
    · intro h
      have := h.no rfl
      cases this
      exact ⟨rfl, rfl, rfl, rfl⟩
  · simp only [untilOk, Bool.and_eq_true, decide_eq_true_eq, Bool.true_eq_false, if_false]
    constructor
    · rintro ⟨⟨⟨h1, h2⟩, h3⟩, h4⟩
      exact ⟨(fun h => by cases h), fun _ => h1, fun _ => h2, fun _ => h3, fun _ => h4⟩
    · intro h
      exact ⟨⟨⟨h.year rfl, h.mon rfl⟩, h.day rfl⟩, h.hour rfl⟩
theorem setB_nil : setB [] = false := by decide +kernel
theorem eraOk_iff (e : EraP) : eraOk e = true ↔ EraRight e := by
  simp only [eraOk, Bool.and_eq_true, Bool.or_eq_true, decide_eq_true_eq, beq_iff_eq, untilOk_iff]
  constructor
  · rintro ⟨⟨⟨⟨⟨⟨⟨h1, h2⟩, h3⟩, h4⟩, h5⟩, h6⟩, h7⟩, h8⟩
    refine ⟨h1, h2, fun h => h3.resolve_left h, fun h => h7.resolve_left (fun h' => h' h), fun h => ?_, fun h => h5.resolve_left h, h6, h8⟩
    rw [← h4]; exact decide_eq_true h
  · intro h
    refine ⟨⟨⟨⟨⟨⟨⟨h.off, h.kind⟩, ?_⟩, ?_⟩, ?_⟩, h.fmt⟩, ?_⟩, h.til⟩
    · by_cases h1 : e.kind = 1
      · exact .inl h1
      · exact .inr (h.save0 h1)
    · by_cases h2 : e.kind = 2
      · rw [h.set2 h2]; exact decide_eq_true h2
      · rw [h.set0 h2, setB_nil]; exact decide_eq_false h2
    · by_cases h2 : e.kind = 2
      · exact .inl h2
      · exact .inr (h.set0 h2)
    · by_cases h1 : e.kind = 1
      · exact .inr (h.save1 h1)
      · exact .inl h1
theorem until_len (u : UntilP) : (untilFs u).length = if u.is = false then 0 else 1 + lastN u := by
  unfold untilFs
  have : lastN u ≤ 3 := by unfold lastN; (repeat' split) <;> omega
  split
  · rfl
  · rcases (by omega : lastN u = 0 ∨ lastN u = 1 ∨ lastN u = 2 ∨ lastN u = 3) with h | h | h | h <;> rw [h] <;> simp
theorem lastN_le (u : UntilP) : lastN u ≤ 3 := by unfold lastN; (repeat' split) <;> omega
-- what is read can be written
-- a line and its fields
theorem fmt_plain {l : List UInt8} (h : fmtB l = true) : (∀ c ∈ l, c ≠ 32) ∧ 1 ≤ l.length ∧ l.length ≤ 20 := by
  simp only [fmtB, Bool.and_eq_true, decide_eq_true_eq, List.all_eq_true] at h
  refine ⟨?_, h.1.1, h.1.2⟩
  rintro c hc rfl
  have := h.2 32 hc
  exact absurd this (by decide)
theorem clock_plain (x b : Int) : ∀ c ∈ clockT x b, c ≠ 32 := by
  intro c hc
  rcases List.mem_append.1 (show c ∈ offTx x ++ (if b = 1 then [115] else if b = 2 then [117] else []) from hc) with hc | hc
  · exact off_plain _ c hc
  · split at hc
    · simp at hc; subst hc; decide
    · split at hc
      · simp at hc; subst hc; decide
      · simp at hc
theorem clock_len {x b : Int} (h : clockOk x b = true) : (clockT x b).length ≤ 11 := by
  simp only [clockOk, Bool.and_eq_true, decide_eq_true_eq] at h
  have := off_len h.1
  show (offTx x ++ _).length ≤ 11
  rw [List.length_append]
  split
  · simp; omega
  · split <;> simp <;> omega
theorem year_plain {y : Int} (h : namedB y = true) : (∀ c ∈ Lib.itoa y, c ≠ 32) ∧ (Lib.itoa y).length ≤ 30 := by
  obtain ⟨n, hn, h1, h2⟩ := named_nat h
  rw [hn, itoa_nat]
  exact ⟨dec_plain n, dec_len4 n (by omega)⟩
theorem by_plain {e : EraP} (h : EraRight e) : (∀ c ∈ byT e, c ≠ 32) ∧ (byT e).length ≤ 30 := by
  unfold byT
  split
  · rename_i h1
    exact ⟨off_plain _, by have := off_len (h.save1 h1); omega⟩
  · split
    · rename_i h2
      have := h.set2 h2
      refine ⟨?_, set_len this⟩
      simp only [setB, Bool.and_eq_true] at this
      exact ofB_plain this.1
    · exact ⟨all_plain (by decide), by decide⟩
theorem until_in {u : UntilP} {a : List UInt8} (ha : a ∈ untilFs u) : u.is = true ∧ (a = Lib.itoa u.year ∨ a = monthT u.mon ∨ a = dayText u.day.1 u.day.2.1 u.day.2.2 ∨ a = clockT u.hour.1 u.hour.2) := by
  unfold untilFs at ha
  by_cases hi : u.is = false
  · rw [if_pos hi] at ha; cases ha
  · rw [if_neg hi] at ha
    refine ⟨by simpa using hi, ?_⟩
    simp only [List.mem_append, List.mem_cons, List.not_mem_nil, or_false] at ha
    rcases ha with ((ha | ha) | ha) | ha
    · exact .inl ha
    · split at ha
      · simp at ha; exact .inr (.inl ha)
      · cases ha
    · split at ha
      · simp at ha; exact .inr (.inr (.inl ha))
      · cases ha
    · split at ha
      · simp at ha; exact .inr (.inr (.inr ha))
      · cases ha
theorem era_field {e : EraP} (h : EraRight e) : ∀ a ∈ eraFs e, (∀ c ∈ a, c ≠ 32) ∧ a.length ≤ 30 := by
  intro a ha
  simp only [eraFs, List.mem_append, List.mem_cons, List.not_mem_nil, or_false] at ha
  rcases ha with (rfl | rfl | rfl) | ha
  · exact ⟨off_plain _, by have := off_len h.off; omega⟩
  · exact by_plain h
  · have := fmt_plain h.fmt
    exact ⟨this.1, by omega⟩
  · obtain ⟨hi, ha⟩ := until_in ha
    rcases ha with rfl | rfl | rfl | rfl
    · exact year_plain (h.til.year hi)
    · exact ⟨all_plain (month_back (h.til.mon hi)).2, by have := monthT_len e.til.mon; omega⟩
    · have := day_back (h.til.day hi)
      exact ⟨all_plain this.2.1, by omega⟩
    · exact ⟨clock_plain _ _, by have := clock_len (h.til.hour hi); omega⟩
theorem eraFs_len (e : EraP) : 3 ≤ (eraFs e).length ∧ (eraFs e).length ≤ 7 := by
  have h1 := until_len e.til
  have h2 := lastN_le e.til
  have h3 : (eraFs e).length = 3 + (untilFs e.til).length := by simp [eraFs]; omega
  rw [h3, h1]
  split <;> omega
theorem eraT_len {e : EraP} (h : EraRight e) : (eraT e).length ≤ 217 := by
  have := joinS_len _ fun a ha => (era_field h a ha).2
  have := (eraFs_len e).2
  unfold eraT
  omega
/-- the fields of an end, with a space in front of each -/
def endT (u : UntilP) : List UInt8 := (untilFs u).flatMap fun x => 32 :: x
theorem joinS_flat (a : List UInt8) (l : List (List UInt8)) : joinS (a :: l) = a ++ l.flatMap fun x => 32 :: x := by
  induction l generalizing a with
  | nil => simp [joinS]
  | cons b l ih =>
    rw [show joinS (a :: b :: l) = a ++ 32 :: joinS (b :: l) from if_neg (by simp), ih]
    simp
theorem eraT_eq (e : EraP) : eraT e = offTx e.off ++ ([32] ++ (byT e ++ ([32] ++ (e.fmt ++ endT e.til)))) := by
  unfold eraT eraFs endT
  rw [show [offTx e.off, byT e, e.fmt] ++ untilFs e.til = offTx e.off :: byT e :: e.fmt :: untilFs e.til from rfl, joinS_flat]
  simp

open Go.RowKit Go.Lib

/-- what reading and writing panic with -/
def failV (x : Int) : Value := .iface 132 (.agg #[.int .i64 x])
def Fails (x : Int) : Ending := .panicked [{ v := failV x, recovered := false }]
theorem must_yes (x : Int) (w : World) : Calls Tryz.prog 97 #[.bool true, .int .i64 x] w fun e w' => e = .returned (.tuple #[]) ∧ w = w' := by
  go_enter Tryz.func97, Tryz.ntmps97
  go_wp2_with fail
  go_end0
  exact ⟨rfl, rfl⟩
theorem must_no (x : Int) (w : World) : Calls Tryz.prog 97 #[.bool false, .int .i64 x] w fun e w' => e = Fails x ∧ w = w' := by
  go_enter Tryz.func97, Tryz.ntmps97
  go_wp2_with fail
  exact ⟨rfl, rfl, rfl⟩

theorem needStr_ok (x : ByteArray) (w : World) : Calls Tryz.prog 131 #[.string x, .int .i64 0] w fun e w' => e = .returned (.string x) ∧ w = w' := by
  go_enter Tryz.func131, Tryz.ntmps131
  go_wp2_with fail
  go_ret
  exact ⟨rfl, rfl⟩
theorem enamed_any (y : Int) (w : World) : Calls Tryz.prog 129 #[.int .i64 y] w fun e w' => e = .returned (.bool (namedB y)) ∧ w = w' := by
  obtain ⟨r, hr⟩ : ∃ r, namedB y = r := ⟨_, rfl⟩
  rw [hr]
  cases r with
  | true =>
    obtain ⟨h1, h2⟩ := of_decide_eq_true hr
    clear hr
    go_enter Tryz.func129, Tryz.ntmps129
    go_wp2_with fail
    go_ret
    exact ⟨rfl, rfl⟩
  | false =>
    have hc := of_decide_eq_false hr
    rcases (by omega : ¬ 1850 ≤ y ∨ (1850 ≤ y ∧ ¬ y ≤ 2149)) with h1 | ⟨h1, h2⟩
    all_goals
      clear hr hc
      go_enter Tryz.func129, Tryz.ntmps129
      go_wp2_with fail
      go_ret
      exact ⟨rfl, rfl⟩

def badR (r : Nat) : Bool := decide (r < 33) || decide (126 < r) || decide (r = 34) || decide (r = 35)
theorem bad_fmt (c : UInt8) : badR c.toNat = !fmtC c := by
  unfold badR fmtC
  by_cases h1 : c.toNat < 33 <;> by_cases h2 : 126 < c.toNat <;> by_cases h3 : c.toNat = 34 <;> by_cases h4 : c.toNat = 35 <;> simp [h1, h2, h3, h4] <;> omega
theorem bad_high {r : Nat} (h : 128 ≤ r) : badR r = true := by
  unfold badR
  rw [show decide (126 < r) = true from decide_eq_true (by omega)]
  simp
theorem idx_from (s : ByteArray) : ∀ (f pos : Nat), s.size ≤ pos + f → (idxFuncFrom badR true s f pos = -1 ↔ ∀ c ∈ s.data.toList.drop pos, fmtC c = true)
  | 0, pos, h => by
    rw [List.drop_eq_nil_of_le (by simpa using h)]
    simp [idxFuncFrom]
  | f + 1, pos, h => by
    have hl : s.data.toList.length = s.size := by simp
    unfold idxFuncFrom
    by_cases hp : pos < s.size
    · rw [if_pos hp, List.drop_eq_getElem_cons (by omega)]
      have e1 : s.data.toList[pos]'(by omega) = s[pos]'hp := rfl
      by_cases hb : (s[pos]'hp).toNat < 128
      · have hd := decode_ascii s pos hp hb
        rw [hd]
        simp only
        by_cases hbad : badR (s[pos]'hp).toNat = true
        · rw [if_pos hbad]
          constructor
          · intro h; omega
          · intro h
            have := h _ (List.mem_cons_self)
            rw [e1] at this
            rw [bad_fmt, this] at hbad
            exact absurd hbad (by decide)
        · rw [if_neg hbad, idx_from s f (pos + 1) (by omega)]
          have hg : fmtC (s[pos]'hp) = true := by
            rw [bad_fmt] at hbad
            simpa using hbad
          rw [e1]
          simp [hg]
      · have hh := (decode_high s pos hp (by omega)).1
        rw [if_pos (bad_high hh)]
        constructor
        · intro h; omega
        · intro h
          have := h _ (List.mem_cons_self)
          rw [e1] at this
          simp only [fmtC, decide_eq_true_eq] at this
          omega
    · rw [if_neg hp, List.drop_eq_nil_of_le (by omega)]
      simp
theorem fmt_idx (s : ByteArray) : fmtB s.data.toList = (decide (1 ≤ s.size ∧ s.size ≤ 20) && !decide (0 ≤ idxFunc badR true s)) := by
  have h := idx_from s s.size 0 (by omega)
  have hl : s.data.toList.length = s.size := by simp
  unfold fmtB
  rw [hl]
  congr 1
  rw [Bool.eq_iff_iff, List.all_eq_true]
  rcases idxFunc_range badR true s with h1 | ⟨h1, h2⟩
  · rw [h1]
    simp only [List.drop_zero] at h
    exact ⟨fun _ => rfl, fun _ => h.1 h1⟩
  · constructor
    · intro h3
      have := h.2 (by simpa using h3)
      unfold idxFunc at h1
      omega
    · intro h3
      simp [h1] at h3

theorem isBad (w : World) : PredAt Tryz.prog 127 #[] encR badR w := fun W r _ => by
  unfold FnGives badR
  by_cases h1 : r < 33 <;> by_cases h2 : 126 < r <;> by_cases h3 : r = 34 <;> by_cases h4 : r = 35
  all_goals first | (exfalso; omega) | skip
  all_goals
    have z1 : (r : Int) < 33 ↔ r < 33 := by omega
    have z2 : (126 : Int) < (r : Int) ↔ 126 < r := by omega
    have z3 : ((r : Int) == 34) = decide (r = 34) := by
      by_cases h : r = 34
      · subst h; rfl
      · rw [decide_eq_false h, beq_eq_false_iff_ne]; omega
    have z4 : ((r : Int) == 35) = decide (r = 35) := by
      by_cases h : r = 35
      · subst h; rfl
      · rw [decide_eq_false h, beq_eq_false_iff_ne]; omega
    go_enter Tryz.func127, Tryz.ntmps127
    go_wp2
    all_goals first | (exfalso; omega) | (go_ret; exact ⟨by simp [h1, h2, h3, h4], 0, rfl⟩)

set_option maxHeartbeats 1000000 in
theorem written_any (s : ByteArray) (w : World) (hs : s.size ≤ 1048576) : Calls Tryz.prog 98 #[.string s] w fun e w' => e = .returned (.bool (fmtB s.data.toList)) ∧ Below w.heap.size w w' := by
  have hF := fmt_idx s
  by_cases h1 : 1 ≤ s.size
  · by_cases h2 : s.size ≤ 20
    · rw [decide_eq_true (And.intro h1 h2), Bool.true_and] at hF
      have hC := Any.strings_ContainsFunc Tryz.laysGw17 127 #[] (enters_of Tryz.func127 (by kernel_rfl) rfl) badR s w (isBad w)
      change Calls Tryz.prog 128 _ _ _ at hC
      have HC := Lib.hid hC
      have HF := Lib.hid hF
      clear hC hF
      generalize decide (0 ≤ idxFunc badR true s) = r at *
      have z1 : (1 : Int) ≤ (s.size : Int) := by omega
      have z2 : (s.size : Int) ≤ 20 := by omega
      go_enter Tryz.func98, Tryz.ntmps98
      go_wp2_with fail
      refine HC.out.mono ?_
      rintro e w1 ⟨rfl, hb⟩
      go_wp2_with fail
      go_ret
      exact ⟨by rw [HF.out]; rfl, hb⟩
    · have HF := Lib.hid (show fmtB s.data.toList = false by rw [hF, decide_eq_false (fun h => h2 h.2)]; rfl)
      have z1 : (1 : Int) ≤ (s.size : Int) := by omega
      have z2 : ¬ (s.size : Int) ≤ 20 := by omega
      clear hF
      go_enter Tryz.func98, Tryz.ntmps98
      go_wp2_with fail
      go_ret
      exact ⟨by rw [HF.out]; rfl, Below.refl _ _⟩
  · have HF := Lib.hid (show fmtB s.data.toList = false by rw [hF, decide_eq_false (fun h => h1 h.1)]; rfl)
    have z1 : ¬ (1 : Int) ≤ (s.size : Int) := by omega
    clear hF
    go_enter Tryz.func98, Tryz.ntmps98
    go_wp2_with fail
    go_ret
    exact ⟨by rw [HF.out]; rfl, Below.refl _ _⟩

open Go.RowKit

theorem assert_fail (x : Int) (w : World) : (Instr.typeAssert (failV x) 20 132 true).run Tryz.prog w = .ok (.tuple #[.agg #[.int .i64 x], .bool true]) w := by kernel_rfl

theorem catch_fail (g : Nat) (y x : Int) (older : List PanicEntry) (w : World) (hB : Blk w g 31 #[.int .i64 y]) :
    CallsD Tryz.prog 95 #[.pointer (some ⟨g, 0, none⟩)] (.panicking ({ v := failV x, recovered := false } :: older)) w fun e u' w' =>
      e = .returned (.tuple #[]) ∧ u' = .panicking ({ v := failV x, recovered := true } :: older) ∧ w' = (w.alloc (.cells #[.int .i64 x] 132)).setCell ⟨g, 0, none⟩ (.int .i64 x) := by
  have hc : w.cell? ⟨g, 0, none⟩ = some (.int .i64 y) := hB.cell_ rfl
  have hz := hB.frozen 0
  have hlt := hB.lt
  have hta := fun w => assert_fail x w
  unfold failV at *
  refine callsD_of_wpS Tryz.func95 rfl fun c₀ cs hu => ?_
  apply wpS_seq
  apply wpS_region
  simp [wpOpsS, go_sem, recoverD, hu, Tryz.ntmps95, Exit.thenS]
  apply wpS_seq
  apply wpS_region
  simp [wpOpsS, go_sem, Exit.thenS]
  refine wpS_cond (t := true) (by simp [Act.eval, Array.replicate]) ?_
  simp only [if_true]
  apply wpS_seq
  apply wpS_region
  simp [wpOpsS, go_sem, Exit.thenS, hta]
  apply wpS_seq
  apply wpS_seq
  apply wpS_region
  simp [wpOpsS, go_sem, Exit.thenS]
  refine wpS_cond (t := false) (by simp [Act.eval, Array.replicate]) ?_
  simp only [Bool.false_eq_true, if_false]
  refine wpS_of_wp (wp_skip ?_)
  simp only [Exit.thenS]
  apply wpS_region
  simp [wpOpsS, go_sem, hc, hz, hlt, bodyPostS, results, Tryz.results95]

theorem catch_idle (g : Nat) (w : World) :
    CallsD Tryz.prog 95 #[.pointer (some ⟨g, 0, none⟩)] .returning w fun e u' w' => e = .returned (.tuple #[]) ∧ u' = .returning ∧ w' = w := by
  refine callsD_of_wpS Tryz.func95 rfl fun c₀ cs hu => ?_
  apply wpS_seq
  apply wpS_region
  simp [wpOpsS, go_sem, recoverD, hu, Tryz.ntmps95, Exit.thenS]
  apply wpS_seq
  apply wpS_region
  simp [wpOpsS, go_sem, Exit.thenS]
  refine wpS_cond (t := false) (by simp [Act.eval, Array.replicate]) ?_
  simp only [Bool.false_eq_true, if_false]
  refine wpS_of_wp (wp_skip ?_)
  cases c₀
  simp_all [bodyPostS, results, Tryz.results95]

/-- the world behind caught, where the closure has returned -/
def DoneP (g : Nat) (Q : World → Prop) (w' : World) : Prop := ∃ w2, Q w2 ∧ w' = w2.setCell ⟨g, 0, none⟩ (.int .i64 0)
set_option maxHeartbeats 400000 in
theorem caughtP_ok (pa pb : Value) (w : World) (Q : World → Prop)
    (HD : Hid (Calls Tryz.prog 63 #[pa, pb] (w.alloc (.cells #[.int .i64 0] 31)) fun e w' => e = .returned (.tuple #[]) ∧ Blk w' w.heap.size 31 #[.int .i64 0] ∧ Q w')) :
    Calls Tryz.prog 62 #[.func (.func 63) #[] #[pa, pb]] w fun e w' => e = .returned (.int .i64 0) ∧ DoneP w.heap.size Q w' := by
  have hmf : ∀ (fn : Fn) (first cap : Array Value) (w : World), (Instr.makeFunc fn first cap).run Tryz.prog w = .ok (.func fn first cap) w := fun _ _ _ _ => rfl
  go_enter_defers Tryz.func62, Tryz.ntmps62
  go_wp2_with fail
  refine HD.out.mono ?_
  rintro e w2 ⟨rfl, hB, hQ⟩
  have HB := Lib.hid hB
  have HQ := Lib.hid hQ
  have hc : w2.cell? ⟨w.heap.size, 0, none⟩ = some (.int .i64 0) := hB.cell_ rfl
  have hz := hB.frozen 0
  have hlt := hB.lt
  clear hB hQ
  go_wp2_with fail
  refine leaves_cons (f := 95) (args := #[.pointer (some ⟨w.heap.size, 0, none⟩)]) (by simp) (by simp [go_sem]) ?_
  refine (catch_idle w.heap.size _).mono ?_
  rintro e u' w'' ⟨rfl, rfl, rfl⟩
  simp [Leaves, settle, results, Tryz.results62, go_sem, hc]
  exact ⟨w2, HQ.out, rfl⟩

/-- the world behind caught, where the closure has panicked -/
def FellP (g : Nat) (x : Int) (Q : World → Prop) (w' : World) : Prop := ∃ w2, Q w2 ∧ w' = (w2.setCell ⟨g, 0, none⟩ (.int .i64 x)).alloc (.cells #[.int .i64 x] 132)
set_option maxHeartbeats 400000 in
theorem caughtP_no (pa pb : Value) (x : Int) (w : World) (Q : World → Prop)
    (HD : Hid (Calls Tryz.prog 63 #[pa, pb] (w.alloc (.cells #[.int .i64 0] 31)) fun e w' => e = Fails x ∧ Blk w' w.heap.size 31 #[.int .i64 0] ∧ Q w')) :
    Calls Tryz.prog 62 #[.func (.func 63) #[] #[pa, pb]] w fun e w' => e = .returned (.int .i64 x) ∧ FellP w.heap.size x Q w' := by
  have hmf : ∀ (fn : Fn) (first cap : Array Value) (w : World), (Instr.makeFunc fn first cap).run Tryz.prog w = .ok (.func fn first cap) w := fun _ _ _ _ => rfl
  go_enter_defers Tryz.func62, Tryz.ntmps62
  go_wp2_with fail
  refine HD.out.mono ?_
  rintro e w2 ⟨rfl, hB, hQ⟩
  have HB := Lib.hid hB
  have HQ := Lib.hid hQ
  have hc : w2.cell? ⟨w.heap.size, 0, none⟩ = some (.int .i64 0) := hB.cell_ rfl
  have hz := hB.frozen 0
  have hlt := hB.lt
  clear hB hQ
  unfold Fails
  refine leaves_cons (f := 95) (args := #[.pointer (some ⟨w.heap.size, 0, none⟩)]) (by simp) (by simp [go_sem]) ?_
  refine (catch_fail w.heap.size 0 x [] _ HB.out).mono ?_
  rintro e u' w'' ⟨rfl, rfl, rfl⟩
  simp [Leaves, settle, results, Tryz.results62, go_sem, hc, hlt]
  exact ⟨w2, HQ.out, rfl⟩

theorem amount_ok (x : Int) (w : World) (hP : Pows w) (h : -604799 ≤ x ∧ x ≤ 604799) :
    Calls Tryz.prog 96 #[.int .i64 x] w fun e w' => e = .returned (.string ⟨(offTx x).toArray⟩) ∧ Below w.heap.size w w' := by
  have HO := Lib.hid (offPrint_any x w hP)
  rcases off_cases x with ⟨_, he⟩ | ⟨hn, _⟩
  · rw [he] at HO
    clear hP h he
    go_enter Tryz.func96, Tryz.ntmps96
    go_wp2_with fail
    refine HO.out.mono ?_
    rintro e w1 ⟨rfl, hb1⟩
    go_wp2_with fail
    refine (must_yes _ _).mono ?_
    rintro e w3 ⟨rfl, rfl⟩
    go_wp2_with fail
    go_ret
    exact ⟨rfl, hb1⟩
  · exact absurd h hn
theorem amount_no (x : Int) (w : World) (hP : Pows w) (h : ¬ (-604799 ≤ x ∧ x ≤ 604799)) :
    Calls Tryz.prog 96 #[.int .i64 x] w fun e w' => e = Fails 2 ∧ Below w.heap.size w w' := by
  have HO := Lib.hid (offPrint_any x w hP)
  rcases off_cases x with ⟨hn, _⟩ | ⟨_, he⟩
  · exact absurd hn h
  · rw [he] at HO
    clear hP h he
    go_enter Tryz.func96, Tryz.ntmps96
    go_wp2_with fail
    refine HO.out.mono ?_
    rintro e w1 ⟨rfl, hb1⟩
    go_wp2_with fail
    refine (must_no _ _).mono ?_
    rintro e w3 ⟨rfl, rfl⟩
    exact ⟨rfl, rfl, hb1⟩

set_option maxHeartbeats 400000 in
theorem first_any (y : Int) (w : World) : Calls Tryz.prog 147 #[.int .i64 y] w fun e w' => e = .returned (.agg #[.bool true, .int .i64 y, .int .i64 1, .int .i64 1, .int .i64 0, .int .i64 1, .int .i64 0, .int .i64 0]) ∧ Below w.heap.size w w' := by
  go_enter Tryz.func147, Tryz.ntmps147
  go_wp2_with fail
  refine bodyPost_ret (by simp [results, Tryz.results147, go_sem]; rfl) rfl ⟨?_, ?_⟩
  · rfl
  · go_grown

theorem eret_int {k : IntKind} {a b : Int} (h : a = b) : Ending.returned (.int k a) = .returned (.int k b) := by rw [h]
set_option maxHeartbeats 1000000 in
theorem last_any (u : UntilP) (w : World) : Calls Tryz.prog 130 #[.agg u.arr] w fun e w' => e = .returned (.int .i64 (lastN u : Int)) ∧ Below w.heap.size w w' := by
  obtain ⟨is, y, m, ⟨d1, d2, d3⟩, ⟨h1, h2⟩⟩ := u
  simp only [UntilP.arr]
  have HF := Lib.hid (fun W => first_any y W)
  have HL := Lib.hid (show ((h1 = 0 ∧ h2 = 0) ∨ lastN ⟨is, y, m, (d1, d2, d3), (h1, h2)⟩ = 3) ∧ (¬ (h1 = 0 ∧ h2 = 0) ∨ (d1 = 1 ∧ d2 = 0 ∧ d3 = 1) ∨ lastN ⟨is, y, m, (d1, d2, d3), (h1, h2)⟩ = 2) ∧ (¬ (h1 = 0 ∧ h2 = 0) ∨ ¬ (d1 = 1 ∧ d2 = 0 ∧ d3 = 1) ∨ m = 1 ∨ lastN ⟨is, y, m, (d1, d2, d3), (h1, h2)⟩ = 1) ∧ (¬ (h1 = 0 ∧ h2 = 0) ∨ ¬ (d1 = 1 ∧ d2 = 0 ∧ d3 = 1) ∨ m ≠ 1 ∨ lastN ⟨is, y, m, (d1, d2, d3), (h1, h2)⟩ = 0) by
    by_cases a : h1 = 0 ∧ h2 = 0 <;> by_cases b : d1 = 1 ∧ d2 = 0 ∧ d3 = 1 <;> by_cases c : m = 1 <;> simp [lastN, a, b, c])
  generalize lastN ⟨is, y, m, (d1, d2, d3), (h1, h2)⟩ = n at *
  go_enter Tryz.func130, Tryz.ntmps130
  go_wp2_with fail
  refine (HF.out _).mono ?_
  rintro e w1 ⟨rfl, hb1⟩
  have b1 : Blk w1 w.heap.size 53 #[.bool is, .int .i64 y, .int .i64 m, .int .i64 d1, .int .i64 d2, .int .i64 d3, .int .i64 h1, .int .i64 h2] := (Blk.new' w _ _ rfl).below hb1 (by simp)
  have HB := Lib.hid (((Below.refl _ w).alloc (Nat.le_refl _) (.cells #[.bool is, .int .i64 y, .int .i64 m, .int .i64 d1, .int .i64 d2, .int .i64 d3, .int .i64 h1, .int .i64 h2] 53)).trans (hb1.mono (by simp)))
  have q2 : w1.cell? ⟨w.heap.size, 2, none⟩ = some (.int .i64 m) := b1.cell_ rfl
  have q3 : w1.cell? ⟨w.heap.size, 3, none⟩ = some (.int .i64 d1) := b1.cell_ rfl
  have q4 : w1.cell? ⟨w.heap.size, 4, none⟩ = some (.int .i64 d2) := b1.cell_ rfl
  have q5 : w1.cell? ⟨w.heap.size, 5, none⟩ = some (.int .i64 d3) := b1.cell_ rfl
  have q6 : w1.cell? ⟨w.heap.size, 6, none⟩ = some (.int .i64 h1) := b1.cell_ rfl
  have q7 : w1.cell? ⟨w.heap.size, 7, none⟩ = some (.int .i64 h2) := b1.cell_ rfl
  have hlt := b1.lt
  clear b1 hb1
  go_wp2_with fail
  all_goals
    go_ret
    refine ⟨eret_int ?_, rbelow_alloc HB.out _⟩
    have := HL.out
    first | omega | (simp at *; omega)


/-- the listed variables, as the walks of eras ask for them -/
structure ETabs (w : World) : Prop where
  kinds : Kinds w
  weeks : Weeks w
  months : Months w
  pows : Pows w
theorem ETabs.below {w w' : World} (h : ETabs w) (hb : Below w.heap.size w w') : ETabs w' :=
  ⟨h.kinds.below hb, h.weeks.below hb, h.months.below hb, h.pows.below hb⟩

theorem endT_none (u : UntilP) (h : u.is = false) : endT u = [] := by unfold endT untilFs; rw [if_pos h]; rfl
set_option maxRecDepth 100000 in
set_option maxHeartbeats 1000000 in
theorem end_zero (w : World) :
    Calls Tryz.prog 99 #[.agg #[.bool false, .int .i64 0, .int .i64 0, .int .i64 0, .int .i64 0, .int .i64 0, .int .i64 0, .int .i64 0]] w fun e w' => e = .returned (.string ⟨#[]⟩) ∧ Below w.heap.size w w' := by
  go_enter Tryz.func99, Tryz.ntmps99
  go_wp2_with fail
  refine (must_yes _ _).mono ?_
  rintro e w3 ⟨rfl, rfl⟩
  go_wp2_with fail
  go_ret
  exact ⟨rfl, by go_grown⟩
set_option maxRecDepth 100000 in
set_option maxHeartbeats 1000000 in
theorem end_off (y m d1 d2 d3 h1 h2 : Int) (w : World) (h : ¬ (y = 0 ∧ m = 0 ∧ d1 = 0 ∧ d2 = 0 ∧ d3 = 0 ∧ h1 = 0 ∧ h2 = 0)) :
    Calls Tryz.prog 99 #[.agg #[.bool false, .int .i64 y, .int .i64 m, .int .i64 d1, .int .i64 d2, .int .i64 d3, .int .i64 h1, .int .i64 h2]] w fun e w' => e = Fails 2 ∧ Below w.heap.size w w' := by
  go_enter Tryz.func99, Tryz.ntmps99
  go_wp2_with fail
  all_goals
    refine (must_no _ _).mono ?_
    rintro e w3 ⟨rfl, rfl⟩
    exact ⟨rfl, rfl, by go_grown⟩

set_option maxRecDepth 100000 in
set_option maxHeartbeats 2000000 in
theorem end_on (y m d1 d2 d3 h1 h2 : Int) (w : World) (hT : ETabs w) (hr : UntilRight ⟨true, y, m, (d1, d2, d3), (h1, h2)⟩) :
    Calls Tryz.prog 99 #[.agg #[.bool true, .int .i64 y, .int .i64 m, .int .i64 d1, .int .i64 d2, .int .i64 d3, .int .i64 h1, .int .i64 h2]] w fun e w' => e = .returned (.string ⟨(endT ⟨true, y, m, (d1, d2, d3), (h1, h2)⟩).toArray⟩) ∧ Below w.heap.size w w' := by
  have HT := Lib.hid (fun W (hW : Below w.heap.size w W) => hT.below hW)
  have hy := of_decide_eq_true (hr.year rfl)
  obtain ⟨hm1, hm2⟩ := hr.mon rfl
  have hd : checkR d1 d2 d3 = 0 := if_pos (hr.day rfl)
  have hc : clockOk h1 h2 = true := hr.hour rfl
  have HNm := Lib.hid (show ∀ W, Calls Tryz.prog 129 #[.int .i64 y] W fun e w' => e = .returned (.bool true) ∧ W = w' from fun W => by have := enamed_any y W; rwa [hr.year rfl] at this)
  have HDc := Lib.hid (show ∀ W, Below w.heap.size w W → Calls Tryz.prog 85 #[.agg #[.int .i64 d1, .int .i64 d2, .int .i64 d3]] W fun e w' => e = .returned (.int .i64 0) ∧ Below W.heap.size W w' from fun W hW => by have := check_any d1 d2 d3 W (hT.below hW).kinds; rwa [hd] at this)
  have HCc := Lib.hid (show ∀ W, Calls Tryz.prog 87 #[.agg #[.int .i64 h1, .int .i64 h2]] W fun e w' => e = .returned (.int .i64 0) ∧ Below W.heap.size W w' from fun W => by have := clockCheck_any h1 h2 W; rwa [hc] at this)
  have HDp := Lib.hid (show ∀ W, Below w.heap.size w W → Calls Tryz.prog 52 #[.agg #[.int .i64 d1, .int .i64 d2, .int .i64 d3]] W fun e w' => e = .returned (.tuple #[.string ⟨(dayText d1 d2 d3).toArray⟩, .int .i64 0]) ∧ Below W.heap.size W w' from fun W hW => by
    have := print_any d1 d2 d3 W (hT.below hW).kinds (hT.below hW).weeks
    rwa [show printR d1 d2 d3 = (dayText d1 d2 d3, 0) from if_pos (hr.day rfl)] at this)
  have HCp := Lib.hid (show ∀ W, Below w.heap.size w W → Calls Tryz.prog 53 #[.agg #[.int .i64 h1, .int .i64 h2]] W fun e w' => e = .returned (.tuple #[.string ⟨(clockT h1 h2).toArray⟩, .int .i64 0]) ∧ Below W.heap.size W w' from fun W hW => by
    have := clockPrint_any h1 h2 W (hT.below hW).pows
    rwa [show clockPrintR h1 h2 = (clockT h1 h2, 0) from if_pos hc] at this)
  have HMt := Lib.hid (show ∀ W, Below w.heap.size w W → Calls Tryz.prog 61 #[.int .i64 m] W fun e w' => e = .returned (.string ⟨(monthT m).toArray⟩) ∧ Below W.heap.size W w' from fun W hW => monthText_any m W (hT.below hW).months (by simp only at hm1; omega) (by simp only at hm2; omega))
  have HIt := Lib.hid (show ∀ W, Below w.heap.size w W → Calls Tryz.prog 59 #[.int .i64 y] W fun e w' => e = .returned (.string ⟨(Lib.itoa y).toArray⟩) ∧ Below W.heap.size W w' from fun W hW => itoa_any y W (hT.below hW).pows (by simp only at hy; omega) (by simp only at hy; omega))
  have HLa := Lib.hid (show ∀ W, Calls Tryz.prog 130 #[.agg #[.bool true, .int .i64 y, .int .i64 m, .int .i64 d1, .int .i64 d2, .int .i64 d3, .int .i64 h1, .int .i64 h2]] W fun e w' => e = .returned (.int .i64 (lastN ⟨true, y, m, (d1, d2, d3), (h1, h2)⟩ : Int)) ∧ Below W.heap.size W w' from fun W => last_any ⟨true, y, m, (d1, d2, d3), (h1, h2)⟩ W)
  have hlN := lastN_le ⟨true, y, m, (d1, d2, d3), (h1, h2)⟩
  have HE := Lib.hid (show endT ⟨true, y, m, (d1, d2, d3), (h1, h2)⟩ = 32 :: (Lib.itoa y ++ ((if 1 ≤ lastN ⟨true, y, m, (d1, d2, d3), (h1, h2)⟩ then 32 :: monthT m else []) ++ ((if 2 ≤ lastN ⟨true, y, m, (d1, d2, d3), (h1, h2)⟩ then 32 :: dayText d1 d2 d3 else []) ++ (if 3 ≤ lastN ⟨true, y, m, (d1, d2, d3), (h1, h2)⟩ then 32 :: clockT h1 h2 else [])))) by
    unfold endT untilFs
    rw [if_neg (by simp)]
    simp only [List.flatMap_append, List.flatMap_cons, List.flatMap_nil, List.append_nil]
    (repeat' split) <;> simp)
  have hl0 := (year_plain (hr.year rfl)).2
  have hl1 : (monthT m).length ≤ 30 := by have := monthT_len m; omega
  have hl2 : (dayText d1 d2 d3).length ≤ 30 := by have := (day_back (hr.day rfl)).2.2; simp only at this; omega
  have hl3 : (clockT h1 h2).length ≤ 30 := by have := clock_len hc; omega
  simp only at hl0
  generalize lastN ⟨true, y, m, (d1, d2, d3), (h1, h2)⟩ = n at *
  generalize endT ⟨true, y, m, (d1, d2, d3), (h1, h2)⟩ = T at *
  generalize Lib.itoa y = t0 at *
  generalize monthT m = t1 at *
  generalize dayText d1 d2 d3 = t2 at *
  generalize clockT h1 h2 = t3 at *
  simp only at hm1 hm2
  have hB0 := (Below.refl w.heap.size w).alloc (Nat.le_refl _) (.cells #[.bool true, .int .i64 y, .int .i64 m, .int .i64 d1, .int .i64 d2, .int .i64 d3, .int .i64 h1, .int .i64 h2] 53)
  have HB0 := Lib.hid (And.intro (Blk.new' w 53 #[.bool true, .int .i64 y, .int .i64 m, .int .i64 d1, .int .i64 d2, .int .i64 d3, .int .i64 h1, .int .i64 h2] rfl) hB0)
  clear hT hr hy hd hc hB0
  go_enter Tryz.func99, Tryz.ntmps99
  go_wp2_with fail
  refine (HNm.out _).mono ?_
  rintro e w1 ⟨rfl, rfl⟩
  go_wp2_with fail
  refine (HDc.out _ HB0.out.2).mono ?_
  rintro e w1 ⟨rfl, hb1⟩
  have HB1 := Lib.hid (And.intro (HB0.out.1.below hb1 HB0.out.1.lt) (HB0.out.2.trans (hb1.mono HB0.out.2.size)))
  clear hb1 HB0 HDc HNm
  obtain ⟨q0, q1, q2, q3, q4, q5, q6, q7⟩ : w1.cell? ⟨w.heap.size, 0, none⟩ = some (.bool true) ∧ w1.cell? ⟨w.heap.size, 1, none⟩ = some (.int .i64 y) ∧ w1.cell? ⟨w.heap.size, 2, none⟩ = some (.int .i64 m) ∧ w1.cell? ⟨w.heap.size, 3, none⟩ = some (.int .i64 d1) ∧ w1.cell? ⟨w.heap.size, 4, none⟩ = some (.int .i64 d2) ∧ w1.cell? ⟨w.heap.size, 5, none⟩ = some (.int .i64 d3) ∧ w1.cell? ⟨w.heap.size, 6, none⟩ = some (.int .i64 h1) ∧ w1.cell? ⟨w.heap.size, 7, none⟩ = some (.int .i64 h2) := ⟨HB1.out.1.cell_ rfl, HB1.out.1.cell_ rfl, HB1.out.1.cell_ rfl, HB1.out.1.cell_ rfl, HB1.out.1.cell_ rfl, HB1.out.1.cell_ rfl, HB1.out.1.cell_ rfl, HB1.out.1.cell_ rfl⟩
  go_wp2_with fail
  refine (HCc.out _).mono ?_
  rintro e w2 ⟨rfl, hb2⟩
  have HB2 := Lib.hid (And.intro (HB1.out.1.below hb2 HB1.out.1.lt) (HB1.out.2.trans (hb2.mono HB1.out.2.size)))
  clear hb2 HB1 HCc q0 q1 q2 q3 q4 q5 q6 q7
  obtain ⟨q0, q1, q2, q3, q4, q5, q6, q7⟩ : w2.cell? ⟨w.heap.size, 0, none⟩ = some (.bool true) ∧ w2.cell? ⟨w.heap.size, 1, none⟩ = some (.int .i64 y) ∧ w2.cell? ⟨w.heap.size, 2, none⟩ = some (.int .i64 m) ∧ w2.cell? ⟨w.heap.size, 3, none⟩ = some (.int .i64 d1) ∧ w2.cell? ⟨w.heap.size, 4, none⟩ = some (.int .i64 d2) ∧ w2.cell? ⟨w.heap.size, 5, none⟩ = some (.int .i64 d3) ∧ w2.cell? ⟨w.heap.size, 6, none⟩ = some (.int .i64 h1) ∧ w2.cell? ⟨w.heap.size, 7, none⟩ = some (.int .i64 h2) := ⟨HB2.out.1.cell_ rfl, HB2.out.1.cell_ rfl, HB2.out.1.cell_ rfl, HB2.out.1.cell_ rfl, HB2.out.1.cell_ rfl, HB2.out.1.cell_ rfl, HB2.out.1.cell_ rfl, HB2.out.1.cell_ rfl⟩
  go_wp2_with fail
  refine (must_yes _ _).mono ?_
  rintro e w3 ⟨rfl, rfl⟩
  go_wp2_with fail
  refine (HLa.out _).mono ?_
  rintro e w3 ⟨rfl, hb3⟩
  have HB3 := Lib.hid (And.intro (HB2.out.1.below hb3 HB2.out.1.lt) (HB2.out.2.trans (hb3.mono HB2.out.2.size)))
  clear hb3 HB2 HLa q0 q1 q2 q3 q4 q5 q6 q7
  -- the switch
  rcases (by omega : n = 3 ∨ n = 2 ∨ n = 1 ∨ n = 0) with rfl | rfl | rfl | rfl
  · have HEE := Lib.hid (by simpa using HE.out)
    clear HE hlN
    obtain ⟨q0, q1, q2, q3, q4, q5, q6, q7⟩ : w3.cell? ⟨w.heap.size, 0, none⟩ = some (.bool true) ∧ w3.cell? ⟨w.heap.size, 1, none⟩ = some (.int .i64 y) ∧ w3.cell? ⟨w.heap.size, 2, none⟩ = some (.int .i64 m) ∧ w3.cell? ⟨w.heap.size, 3, none⟩ = some (.int .i64 d1) ∧ w3.cell? ⟨w.heap.size, 4, none⟩ = some (.int .i64 d2) ∧ w3.cell? ⟨w.heap.size, 5, none⟩ = some (.int .i64 d3) ∧ w3.cell? ⟨w.heap.size, 6, none⟩ = some (.int .i64 h1) ∧ w3.cell? ⟨w.heap.size, 7, none⟩ = some (.int .i64 h2) := ⟨HB3.out.1.cell_ rfl, HB3.out.1.cell_ rfl, HB3.out.1.cell_ rfl, HB3.out.1.cell_ rfl, HB3.out.1.cell_ rfl, HB3.out.1.cell_ rfl, HB3.out.1.cell_ rfl, HB3.out.1.cell_ rfl⟩
    go_wp2_with fail
    refine (HCp.out _ HB3.out.2).mono ?_
    rintro e w4 ⟨rfl, hb⟩
    have HB4 := Lib.hid (And.intro (HB3.out.1.below hb HB3.out.1.lt) (HB3.out.2.trans (hb.mono HB3.out.2.size)))
    clear hb HB3 HCp q0 q1 q2 q3 q4 q5 q6 q7
    go_wp2_with fail
    refine (needStr_ok _ _).mono ?_
    rintro e w9 ⟨rfl, rfl⟩
    obtain ⟨q0, q1, q2, q3, q4, q5, q6, q7⟩ : w4.cell? ⟨w.heap.size, 0, none⟩ = some (.bool true) ∧ w4.cell? ⟨w.heap.size, 1, none⟩ = some (.int .i64 y) ∧ w4.cell? ⟨w.heap.size, 2, none⟩ = some (.int .i64 m) ∧ w4.cell? ⟨w.heap.size, 3, none⟩ = some (.int .i64 d1) ∧ w4.cell? ⟨w.heap.size, 4, none⟩ = some (.int .i64 d2) ∧ w4.cell? ⟨w.heap.size, 5, none⟩ = some (.int .i64 d3) ∧ w4.cell? ⟨w.heap.size, 6, none⟩ = some (.int .i64 h1) ∧ w4.cell? ⟨w.heap.size, 7, none⟩ = some (.int .i64 h2) := ⟨HB4.out.1.cell_ rfl, HB4.out.1.cell_ rfl, HB4.out.1.cell_ rfl, HB4.out.1.cell_ rfl, HB4.out.1.cell_ rfl, HB4.out.1.cell_ rfl, HB4.out.1.cell_ rfl, HB4.out.1.cell_ rfl⟩
    go_wp2_with fail
    refine (HDp.out _ HB4.out.2).mono ?_
    rintro e w5 ⟨rfl, hb⟩
    have HB5 := Lib.hid (And.intro (HB4.out.1.below hb HB4.out.1.lt) (HB4.out.2.trans (hb.mono HB4.out.2.size)))
    clear hb HB4 HDp q0 q1 q2 q3 q4 q5 q6 q7
    go_wp2_with fail
    refine (needStr_ok _ _).mono ?_
    rintro e w9 ⟨rfl, rfl⟩
    obtain ⟨q0, q1, q2, q3, q4, q5, q6, q7⟩ : w5.cell? ⟨w.heap.size, 0, none⟩ = some (.bool true) ∧ w5.cell? ⟨w.heap.size, 1, none⟩ = some (.int .i64 y) ∧ w5.cell? ⟨w.heap.size, 2, none⟩ = some (.int .i64 m) ∧ w5.cell? ⟨w.heap.size, 3, none⟩ = some (.int .i64 d1) ∧ w5.cell? ⟨w.heap.size, 4, none⟩ = some (.int .i64 d2) ∧ w5.cell? ⟨w.heap.size, 5, none⟩ = some (.int .i64 d3) ∧ w5.cell? ⟨w.heap.size, 6, none⟩ = some (.int .i64 h1) ∧ w5.cell? ⟨w.heap.size, 7, none⟩ = some (.int .i64 h2) := ⟨HB5.out.1.cell_ rfl, HB5.out.1.cell_ rfl, HB5.out.1.cell_ rfl, HB5.out.1.cell_ rfl, HB5.out.1.cell_ rfl, HB5.out.1.cell_ rfl, HB5.out.1.cell_ rfl, HB5.out.1.cell_ rfl⟩
    go_wp2_with fail
    refine (HMt.out _ HB5.out.2).mono ?_
    rintro e w6 ⟨rfl, hb⟩
    have HB6 := Lib.hid (And.intro (HB5.out.1.below hb HB5.out.1.lt) (HB5.out.2.trans (hb.mono HB5.out.2.size)))
    clear hb HB5 HMt q0 q1 q2 q3 q4 q5 q6 q7
    obtain ⟨q0, q1, q2, q3, q4, q5, q6, q7⟩ : w6.cell? ⟨w.heap.size, 0, none⟩ = some (.bool true) ∧ w6.cell? ⟨w.heap.size, 1, none⟩ = some (.int .i64 y) ∧ w6.cell? ⟨w.heap.size, 2, none⟩ = some (.int .i64 m) ∧ w6.cell? ⟨w.heap.size, 3, none⟩ = some (.int .i64 d1) ∧ w6.cell? ⟨w.heap.size, 4, none⟩ = some (.int .i64 d2) ∧ w6.cell? ⟨w.heap.size, 5, none⟩ = some (.int .i64 d3) ∧ w6.cell? ⟨w.heap.size, 6, none⟩ = some (.int .i64 h1) ∧ w6.cell? ⟨w.heap.size, 7, none⟩ = some (.int .i64 h2) := ⟨HB6.out.1.cell_ rfl, HB6.out.1.cell_ rfl, HB6.out.1.cell_ rfl, HB6.out.1.cell_ rfl, HB6.out.1.cell_ rfl, HB6.out.1.cell_ rfl, HB6.out.1.cell_ rfl, HB6.out.1.cell_ rfl⟩
    go_wp2_with fail
    refine (HIt.out _ HB6.out.2).mono ?_
    rintro e w7 ⟨rfl, hb⟩
    have HB7 := Lib.hid (And.intro (HB6.out.1.below hb HB6.out.1.lt) (HB6.out.2.trans (hb.mono HB6.out.2.size)))
    clear hb HB6 HIt q0 q1 q2 q3 q4 q5 q6 q7
    go_wp2_with fail
    go_ret
    exact ⟨by rw [HEE.out]; exact congrArg Ending.returned (congrArg Value.string (by apply ByteArray.ext; simp)), HB7.out.2⟩
  · have HEE := Lib.hid (by simpa using HE.out)
    clear HE hlN
    obtain ⟨q0, q1, q2, q3, q4, q5, q6, q7⟩ : w3.cell? ⟨w.heap.size, 0, none⟩ = some (.bool true) ∧ w3.cell? ⟨w.heap.size, 1, none⟩ = some (.int .i64 y) ∧ w3.cell? ⟨w.heap.size, 2, none⟩ = some (.int .i64 m) ∧ w3.cell? ⟨w.heap.size, 3, none⟩ = some (.int .i64 d1) ∧ w3.cell? ⟨w.heap.size, 4, none⟩ = some (.int .i64 d2) ∧ w3.cell? ⟨w.heap.size, 5, none⟩ = some (.int .i64 d3) ∧ w3.cell? ⟨w.heap.size, 6, none⟩ = some (.int .i64 h1) ∧ w3.cell? ⟨w.heap.size, 7, none⟩ = some (.int .i64 h2) := ⟨HB3.out.1.cell_ rfl, HB3.out.1.cell_ rfl, HB3.out.1.cell_ rfl, HB3.out.1.cell_ rfl, HB3.out.1.cell_ rfl, HB3.out.1.cell_ rfl, HB3.out.1.cell_ rfl, HB3.out.1.cell_ rfl⟩
    go_wp2_with fail
    refine (HDp.out _ HB3.out.2).mono ?_
    rintro e w4 ⟨rfl, hb⟩
    have HB4 := Lib.hid (And.intro (HB3.out.1.below hb HB3.out.1.lt) (HB3.out.2.trans (hb.mono HB3.out.2.size)))
    clear hb HB3 HDp q0 q1 q2 q3 q4 q5 q6 q7
    go_wp2_with fail
    refine (needStr_ok _ _).mono ?_
    rintro e w9 ⟨rfl, rfl⟩
    obtain ⟨q0, q1, q2, q3, q4, q5, q6, q7⟩ : w4.cell? ⟨w.heap.size, 0, none⟩ = some (.bool true) ∧ w4.cell? ⟨w.heap.size, 1, none⟩ = some (.int .i64 y) ∧ w4.cell? ⟨w.heap.size, 2, none⟩ = some (.int .i64 m) ∧ w4.cell? ⟨w.heap.size, 3, none⟩ = some (.int .i64 d1) ∧ w4.cell? ⟨w.heap.size, 4, none⟩ = some (.int .i64 d2) ∧ w4.cell? ⟨w.heap.size, 5, none⟩ = some (.int .i64 d3) ∧ w4.cell? ⟨w.heap.size, 6, none⟩ = some (.int .i64 h1) ∧ w4.cell? ⟨w.heap.size, 7, none⟩ = some (.int .i64 h2) := ⟨HB4.out.1.cell_ rfl, HB4.out.1.cell_ rfl, HB4.out.1.cell_ rfl, HB4.out.1.cell_ rfl, HB4.out.1.cell_ rfl, HB4.out.1.cell_ rfl, HB4.out.1.cell_ rfl, HB4.out.1.cell_ rfl⟩
    go_wp2_with fail
    refine (HMt.out _ HB4.out.2).mono ?_
    rintro e w5 ⟨rfl, hb⟩
    have HB5 := Lib.hid (And.intro (HB4.out.1.below hb HB4.out.1.lt) (HB4.out.2.trans (hb.mono HB4.out.2.size)))
    clear hb HB4 HMt q0 q1 q2 q3 q4 q5 q6 q7
    obtain ⟨q0, q1, q2, q3, q4, q5, q6, q7⟩ : w5.cell? ⟨w.heap.size, 0, none⟩ = some (.bool true) ∧ w5.cell? ⟨w.heap.size, 1, none⟩ = some (.int .i64 y) ∧ w5.cell? ⟨w.heap.size, 2, none⟩ = some (.int .i64 m) ∧ w5.cell? ⟨w.heap.size, 3, none⟩ = some (.int .i64 d1) ∧ w5.cell? ⟨w.heap.size, 4, none⟩ = some (.int .i64 d2) ∧ w5.cell? ⟨w.heap.size, 5, none⟩ = some (.int .i64 d3) ∧ w5.cell? ⟨w.heap.size, 6, none⟩ = some (.int .i64 h1) ∧ w5.cell? ⟨w.heap.size, 7, none⟩ = some (.int .i64 h2) := ⟨HB5.out.1.cell_ rfl, HB5.out.1.cell_ rfl, HB5.out.1.cell_ rfl, HB5.out.1.cell_ rfl, HB5.out.1.cell_ rfl, HB5.out.1.cell_ rfl, HB5.out.1.cell_ rfl, HB5.out.1.cell_ rfl⟩
    go_wp2_with fail
    refine (HIt.out _ HB5.out.2).mono ?_
    rintro e w6 ⟨rfl, hb⟩
    have HB6 := Lib.hid (And.intro (HB5.out.1.below hb HB5.out.1.lt) (HB5.out.2.trans (hb.mono HB5.out.2.size)))
    clear hb HB5 HIt q0 q1 q2 q3 q4 q5 q6 q7
    go_wp2_with fail
    go_ret
    exact ⟨by rw [HEE.out]; exact congrArg Ending.returned (congrArg Value.string (by apply ByteArray.ext; simp)), HB6.out.2⟩
  · have HEE := Lib.hid (by simpa using HE.out)
    clear HE hlN
    obtain ⟨q0, q1, q2, q3, q4, q5, q6, q7⟩ : w3.cell? ⟨w.heap.size, 0, none⟩ = some (.bool true) ∧ w3.cell? ⟨w.heap.size, 1, none⟩ = some (.int .i64 y) ∧ w3.cell? ⟨w.heap.size, 2, none⟩ = some (.int .i64 m) ∧ w3.cell? ⟨w.heap.size, 3, none⟩ = some (.int .i64 d1) ∧ w3.cell? ⟨w.heap.size, 4, none⟩ = some (.int .i64 d2) ∧ w3.cell? ⟨w.heap.size, 5, none⟩ = some (.int .i64 d3) ∧ w3.cell? ⟨w.heap.size, 6, none⟩ = some (.int .i64 h1) ∧ w3.cell? ⟨w.heap.size, 7, none⟩ = some (.int .i64 h2) := ⟨HB3.out.1.cell_ rfl, HB3.out.1.cell_ rfl, HB3.out.1.cell_ rfl, HB3.out.1.cell_ rfl, HB3.out.1.cell_ rfl, HB3.out.1.cell_ rfl, HB3.out.1.cell_ rfl, HB3.out.1.cell_ rfl⟩
    go_wp2_with fail
    refine (HMt.out _ HB3.out.2).mono ?_
    rintro e w4 ⟨rfl, hb⟩
    have HB4 := Lib.hid (And.intro (HB3.out.1.below hb HB3.out.1.lt) (HB3.out.2.trans (hb.mono HB3.out.2.size)))
    clear hb HB3 HMt q0 q1 q2 q3 q4 q5 q6 q7
    obtain ⟨q0, q1, q2, q3, q4, q5, q6, q7⟩ : w4.cell? ⟨w.heap.size, 0, none⟩ = some (.bool true) ∧ w4.cell? ⟨w.heap.size, 1, none⟩ = some (.int .i64 y) ∧ w4.cell? ⟨w.heap.size, 2, none⟩ = some (.int .i64 m) ∧ w4.cell? ⟨w.heap.size, 3, none⟩ = some (.int .i64 d1) ∧ w4.cell? ⟨w.heap.size, 4, none⟩ = some (.int .i64 d2) ∧ w4.cell? ⟨w.heap.size, 5, none⟩ = some (.int .i64 d3) ∧ w4.cell? ⟨w.heap.size, 6, none⟩ = some (.int .i64 h1) ∧ w4.cell? ⟨w.heap.size, 7, none⟩ = some (.int .i64 h2) := ⟨HB4.out.1.cell_ rfl, HB4.out.1.cell_ rfl, HB4.out.1.cell_ rfl, HB4.out.1.cell_ rfl, HB4.out.1.cell_ rfl, HB4.out.1.cell_ rfl, HB4.out.1.cell_ rfl, HB4.out.1.cell_ rfl⟩
    go_wp2_with fail
    refine (HIt.out _ HB4.out.2).mono ?_
    rintro e w5 ⟨rfl, hb⟩
    have HB5 := Lib.hid (And.intro (HB4.out.1.below hb HB4.out.1.lt) (HB4.out.2.trans (hb.mono HB4.out.2.size)))
    clear hb HB4 HIt q0 q1 q2 q3 q4 q5 q6 q7
    go_wp2_with fail
    go_ret
    exact ⟨by rw [HEE.out]; exact congrArg Ending.returned (congrArg Value.string (by apply ByteArray.ext; simp)), HB5.out.2⟩
  · have HEE := Lib.hid (by simpa using HE.out)
    clear HE hlN
    obtain ⟨q0, q1, q2, q3, q4, q5, q6, q7⟩ : w3.cell? ⟨w.heap.size, 0, none⟩ = some (.bool true) ∧ w3.cell? ⟨w.heap.size, 1, none⟩ = some (.int .i64 y) ∧ w3.cell? ⟨w.heap.size, 2, none⟩ = some (.int .i64 m) ∧ w3.cell? ⟨w.heap.size, 3, none⟩ = some (.int .i64 d1) ∧ w3.cell? ⟨w.heap.size, 4, none⟩ = some (.int .i64 d2) ∧ w3.cell? ⟨w.heap.size, 5, none⟩ = some (.int .i64 d3) ∧ w3.cell? ⟨w.heap.size, 6, none⟩ = some (.int .i64 h1) ∧ w3.cell? ⟨w.heap.size, 7, none⟩ = some (.int .i64 h2) := ⟨HB3.out.1.cell_ rfl, HB3.out.1.cell_ rfl, HB3.out.1.cell_ rfl, HB3.out.1.cell_ rfl, HB3.out.1.cell_ rfl, HB3.out.1.cell_ rfl, HB3.out.1.cell_ rfl, HB3.out.1.cell_ rfl⟩
    go_wp2_with fail
    refine (HIt.out _ HB3.out.2).mono ?_
    rintro e w4 ⟨rfl, hb⟩
    have HB4 := Lib.hid (And.intro (HB3.out.1.below hb HB3.out.1.lt) (HB3.out.2.trans (hb.mono HB3.out.2.size)))
    clear hb HB3 HIt q0 q1 q2 q3 q4 q5 q6 q7
    go_wp2_with fail
    go_ret
    exact ⟨by rw [HEE.out]; exact congrArg Ending.returned (congrArg Value.string (by apply ByteArray.ext; simp)), HB4.out.2⟩

set_option maxHeartbeats 1000000 in
theorem end_no (y m d1 d2 d3 h1 h2 : Int) (w : World) (hT : ETabs w) (hr : ¬ UntilRight ⟨true, y, m, (d1, d2, d3), (h1, h2)⟩) :
    Calls Tryz.prog 99 #[.agg #[.bool true, .int .i64 y, .int .i64 m, .int .i64 d1, .int .i64 d2, .int .i64 d3, .int .i64 h1, .int .i64 h2]] w fun e w' => e = Fails 2 ∧ Below w.heap.size w w' := by
  have HDc := Lib.hid (fun W (hW : Below w.heap.size w W) => check_any d1 d2 d3 W (hT.below hW).kinds)
  have HCc := Lib.hid (fun W => clockCheck_any h1 h2 W)
  have hB0 := (Below.refl w.heap.size w).alloc (Nat.le_refl _) (.cells #[.bool true, .int .i64 y, .int .i64 m, .int .i64 d1, .int .i64 d2, .int .i64 d3, .int .i64 h1, .int .i64 h2] 53)
  have HB0 := Lib.hid (And.intro (Blk.new' w 53 #[.bool true, .int .i64 y, .int .i64 m, .int .i64 d1, .int .i64 d2, .int .i64 d3, .int .i64 h1, .int .i64 h2] rfl) hB0)
  clear hT hB0
  have HNm := Lib.hid (fun W => enamed_any y W)
  by_cases hy : namedB y = false
  · rw [hy] at HNm
    clear hy hr HDc HCc
    go_enter Tryz.func99, Tryz.ntmps99
    go_wp2_with fail
    refine (HNm.out _).mono ?_
    rintro e w1 ⟨rfl, rfl⟩
    go_wp2_with fail
    refine (must_no _ _).mono ?_
    rintro e w3 ⟨rfl, rfl⟩
    exact ⟨rfl, rfl, HB0.out.2⟩
  have hy2 : namedB y = true := by simpa using hy
  rw [hy2] at HNm
  by_cases hm : 1 ≤ m ∧ m ≤ 12
  case neg =>
    rcases (by omega : m < 1 ∨ (¬ m < 1 ∧ 12 < m)) with h | ⟨h, h'⟩
    all_goals
      clear hy hy2 hr HDc HCc hm
      go_enter Tryz.func99, Tryz.ntmps99
      go_wp2_with fail
      refine (HNm.out _).mono ?_
      rintro e w1 ⟨rfl, rfl⟩
      go_wp2_with fail
      refine (must_no _ _).mono ?_
      rintro e w3 ⟨rfl, rfl⟩
      exact ⟨rfl, rfl, HB0.out.2⟩
  obtain ⟨hm1, hm2⟩ := hm
  by_cases hd : rightDay d1 d2 d3 = true
  case neg =>
    replace HDc := Lib.hid (show ∀ W, Below w.heap.size w W → Calls Tryz.prog 85 #[.agg #[.int .i64 d1, .int .i64 d2, .int .i64 d3]] W fun e w' => e = .returned (.int .i64 2) ∧ Below W.heap.size W w' from fun W hW => by have := HDc.out W hW; rwa [show checkR d1 d2 d3 = 2 from if_neg hd] at this)
    clear hy hy2 hr HCc hd
    go_enter Tryz.func99, Tryz.ntmps99
    go_wp2_with fail
    refine (HNm.out _).mono ?_
    rintro e w1 ⟨rfl, rfl⟩
    go_wp2_with fail
    refine (HDc.out _ HB0.out.2).mono ?_
    rintro e w1 ⟨rfl, hb1⟩
    have HB1 := Lib.hid (HB0.out.2.trans (hb1.mono HB0.out.2.size))
    clear hb1 HB0
    go_wp2_with fail
    refine (must_no _ _).mono ?_
    rintro e w3 ⟨rfl, rfl⟩
    exact ⟨rfl, rfl, HB1.out⟩
  replace HDc := Lib.hid (show ∀ W, Below w.heap.size w W → Calls Tryz.prog 85 #[.agg #[.int .i64 d1, .int .i64 d2, .int .i64 d3]] W fun e w' => e = .returned (.int .i64 0) ∧ Below W.heap.size W w' from fun W hW => by have := HDc.out W hW; rwa [show checkR d1 d2 d3 = 0 from if_pos hd] at this)
  have hc : clockOk h1 h2 = false := by
    cases hc : clockOk h1 h2 with
    | false => rfl
    | true => exact absurd ⟨(fun h => by cases h), fun _ => hy2, fun _ => ⟨hm1, hm2⟩, fun _ => hd, fun _ => hc⟩ hr
  replace HCc := Lib.hid (show ∀ W, Calls Tryz.prog 87 #[.agg #[.int .i64 h1, .int .i64 h2]] W fun e w' => e = .returned (.int .i64 2) ∧ Below W.heap.size W w' from fun W => by have := HCc.out W; rwa [hc] at this)
  clear hy hy2 hr hd hc
  go_enter Tryz.func99, Tryz.ntmps99
  go_wp2_with fail
  refine (HNm.out _).mono ?_
  rintro e w1 ⟨rfl, rfl⟩
  go_wp2_with fail
  refine (HDc.out _ HB0.out.2).mono ?_
  rintro e w1 ⟨rfl, hb1⟩
  have HB1 := Lib.hid (And.intro (HB0.out.1.below hb1 HB0.out.1.lt) (HB0.out.2.trans (hb1.mono HB0.out.2.size)))
  clear hb1 HB0
  obtain ⟨q0, q1, q2, q3, q4, q5, q6, q7⟩ : w1.cell? ⟨w.heap.size, 0, none⟩ = some (.bool true) ∧ w1.cell? ⟨w.heap.size, 1, none⟩ = some (.int .i64 y) ∧ w1.cell? ⟨w.heap.size, 2, none⟩ = some (.int .i64 m) ∧ w1.cell? ⟨w.heap.size, 3, none⟩ = some (.int .i64 d1) ∧ w1.cell? ⟨w.heap.size, 4, none⟩ = some (.int .i64 d2) ∧ w1.cell? ⟨w.heap.size, 5, none⟩ = some (.int .i64 d3) ∧ w1.cell? ⟨w.heap.size, 6, none⟩ = some (.int .i64 h1) ∧ w1.cell? ⟨w.heap.size, 7, none⟩ = some (.int .i64 h2) := ⟨HB1.out.1.cell_ rfl, HB1.out.1.cell_ rfl, HB1.out.1.cell_ rfl, HB1.out.1.cell_ rfl, HB1.out.1.cell_ rfl, HB1.out.1.cell_ rfl, HB1.out.1.cell_ rfl, HB1.out.1.cell_ rfl⟩
  go_wp2_with fail
  refine (HCc.out _).mono ?_
  rintro e w2 ⟨rfl, hb2⟩
  have HB2 := Lib.hid (HB1.out.2.trans (hb2.mono HB1.out.2.size))
  clear hb2 HB1 q0 q1 q2 q3 q4 q5 q6 q7
  go_wp2_with fail
  refine (must_no _ _).mono ?_
  rintro e w3 ⟨rfl, rfl⟩
  exact ⟨rfl, rfl, HB2.out⟩

theorem untilRight_off (y m d1 d2 d3 h1 h2 : Int) : UntilRight ⟨false, y, m, (d1, d2, d3), (h1, h2)⟩ ↔ (y = 0 ∧ m = 0 ∧ d1 = 0 ∧ d2 = 0 ∧ d3 = 0 ∧ h1 = 0 ∧ h2 = 0) := by
  constructor
  · intro h
    have := h.no rfl
    cases this
    exact ⟨rfl, rfl, rfl, rfl, rfl, rfl, rfl⟩
  · rintro ⟨rfl, rfl, rfl, rfl, rfl, rfl, rfl⟩
    exact ⟨fun _ => rfl, (fun h => by cases h), (fun h => by cases h), (fun h => by cases h), (fun h => by cases h)⟩
theorem end_yes (u : UntilP) (w : World) (hT : ETabs w) (hr : UntilRight u) : Calls Tryz.prog 99 #[.agg u.arr] w fun e w' => e = .returned (.string ⟨(endT u).toArray⟩) ∧ Below w.heap.size w w' := by
  obtain ⟨is, y, m, ⟨d1, d2, d3⟩, ⟨h1, h2⟩⟩ := u
  cases is
  · obtain ⟨rfl, rfl, rfl, rfl, rfl, rfl, rfl⟩ := (untilRight_off _ _ _ _ _ _ _).1 hr
    rw [endT_none _ rfl]
    exact end_zero w
  · exact end_on y m d1 d2 d3 h1 h2 w hT hr
theorem end_fail (u : UntilP) (w : World) (hT : ETabs w) (hr : ¬ UntilRight u) : Calls Tryz.prog 99 #[.agg u.arr] w fun e w' => e = Fails 2 ∧ Below w.heap.size w w' := by
  obtain ⟨is, y, m, ⟨d1, d2, d3⟩, ⟨h1, h2⟩⟩ := u
  cases is
  · exact end_off y m d1 d2 d3 h1 h2 w fun h => hr ((untilRight_off _ _ _ _ _ _ _).2 h)
  · exact end_no y m d1 d2 d3 h1 h2 w hT hr
end Go.Proofs.YtmcgbjjcpcgcfaaGreatDoor
