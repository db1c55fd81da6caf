/-
  Rules and their lines, in plain Lean: the line of a rule that can be written is read as that rule, and what is read can be written.
-/
import Derived.Test.YtgfnnmdngckmmaaGreatDoorRuleParse
set_option linter.unusedVariables false
namespace Go.Proofs.YtgfnnmdngckmmaaGreatDoor
open Go.RowKit

def onlyB : List UInt8 := [111, 110, 108, 121]
def maxB : List UInt8 := [109, 97, 120]
def ruleB : List UInt8 := [82, 117, 108, 101]
def offTx (x : Int) : List UInt8 := (if x < 0 then [45] else []) ++ offT x.natAbs
def lastT (f t : Int) : List UInt8 := if t = f then onlyB else if t = 1048576 then maxB else Lib.itoa t
def lettT (l : List UInt8) : List UInt8 := if l = [] then [45] else l
def ruleOk (r : RuleP) : Bool := rightDay r.day.1 r.day.2.1 r.day.2.2 && clockOk r.hour.1 r.hour.2 && decide (-604799 ≤ r.save ∧ r.save ≤ 604799) && setB r.name && namedB r.frm && (namedB r.til || decide (r.til = 1048576)) && decide (1 ≤ r.mon ∧ r.mon ≤ 12) && (decide (r.lett = []) || ofB 1 4 1 r.lett)
def ruleFs (r : RuleP) : List (List UInt8) := [r.name, Lib.itoa r.frm, lastT r.frm r.til, [45], monthT r.mon, dayText r.day.1 r.day.2.1 r.day.2.2, clockT r.hour.1 r.hour.2, offTx r.save, lettT r.lett]
def joinS : List (List UInt8) → List UInt8
  | [] => []
  | a :: r => if r = [] then a else a ++ 32 :: joinS r
def ruleT (r : RuleP) : List UInt8 := joinS (ruleB :: ruleFs r)
/-- the line of a rule, and the error -/
def rulePrintR (r : RuleP) : List UInt8 × Int := if ruleOk r = true then (ruleT r, 0) else ([], 2)

structure RuleRight (r : RuleP) : Prop where
  day : rightDay r.day.1 r.day.2.1 r.day.2.2 = true
  hour : clockOk r.hour.1 r.hour.2 = true
  save : -604799 ≤ r.save ∧ r.save ≤ 604799
  name : setB r.name = true
  frm : namedB r.frm = true
  til : namedB r.til = true ∨ r.til = 1048576
  mon : 1 ≤ r.mon ∧ r.mon ≤ 12
  lett : r.lett = [] ∨ ofB 1 4 1 r.lett = true
theorem ruleOk_iff (r : RuleP) : ruleOk r = true ↔ RuleRight r := by
  simp only [ruleOk, Bool.and_eq_true, Bool.or_eq_true, decide_eq_true_eq]
  constructor
  · rintro ⟨⟨⟨⟨⟨⟨⟨h1, h2⟩, h3⟩, h4⟩, h5⟩, h6⟩, h7⟩, h8⟩; exact ⟨h1, h2, h3, h4, h5, h6, h7, h8⟩
  · rintro ⟨h1, h2, h3, h4, h5, h6, h7, h8⟩; exact ⟨⟨⟨⟨⟨⟨⟨h1, h2⟩, h3⟩, h4⟩, h5⟩, h6⟩, h7⟩, h8⟩

-- years
theorem itoa_nat (n : Nat) : Lib.itoa (n : Int) = Lib.decDigits n := by simp [Lib.itoa]
theorem named_nat {y : Int} (h : namedB y = true) : ∃ n : Nat, y = (n : Int) ∧ 1850 ≤ n ∧ n ≤ 2149 := by
  have h := of_decide_eq_true h
  exact ⟨y.toNat, by omega, by omega, by omega⟩
theorem year_back {y : Int} (h : namedB y = true) : yearR (Lib.itoa y) = (y, 0) := by
  obtain ⟨n, rfl, h1, h2⟩ := named_nat h
  obtain ⟨_, hv, _, _⟩ := dec_all n
  rw [itoa_nat, yearR, if_pos (isYear_dec n (by omega) (by omega)), hv, if_pos ⟨h1, h2⟩]
theorem year_named {l : List UInt8} (h : (yearR l).2 = 0) : namedB (yearR l).1 = true := by
  unfold yearR at h ⊢
  split at h
  · split at h
    · rename_i h1 h2
      rw [if_pos h1, if_pos h2]
      exact decide_eq_true (by simp only; omega)
    · simp at h
  · simp at h
theorem dec_head {n : Nat} : ∃ c, (Lib.decDigits n).head? = some c ∧ 48 ≤ c.toNat ∧ c.toNat ≤ 57 := by
  obtain ⟨ha, _, hn, _⟩ := dec_all n
  cases hl : Lib.decDigits n with
  | nil => exact absurd hl hn
  | cons c r => exact ⟨c, rfl, ha c (by rw [hl]; simp)⟩
theorem until_only (f : Int) : untilR onlyB f = (f, 0) := by
  have h : wordR toL 1 onlyB = (1, 0) := by decide +kernel
  rw [until_word (by intro c hc; cases hc; decide), h]; rfl
theorem until_max (f : Int) : untilR maxB f = (1048576, 0) := by
  have h : wordR toL 1 maxB = (2, 0) := by decide +kernel
  rw [until_word (by intro c hc; cases hc; decide), h]; rfl
theorem until_dec {y : Int} (f : Int) (h : namedB y = true) : untilR (Lib.itoa y) f = (y, 0) := by
  obtain ⟨n, rfl, h1, h2⟩ := named_nat h
  obtain ⟨c, hc, hd⟩ := dec_head (n := n)
  rw [until_year (by rw [itoa_nat]; exact hc) hd, year_back h]
theorem until_back {f t : Int} (ht : namedB t = true ∨ t = 1048576) : untilR (lastT f t) f = (t, 0) := by
  unfold lastT
  split
  · rename_i h; rw [until_only, h]
  · split
    · rename_i h; rw [until_max, h]
    · rename_i h
      exact until_dec f (ht.resolve_right h)
theorem until_named {l : List UInt8} {f : Int} (hf : namedB f = true) (h : (untilR l f).2 = 0) : namedB (untilR l f).1 = true ∨ (untilR l f).1 = 1048576 := by
  unfold untilR at h ⊢
  split at h
  · rename_i h1
    rw [if_pos h1]
    exact .inl (year_named h)
  · rename_i h1
    rw [if_neg h1]
    split at h
    · rename_i h2
      rw [if_pos h2]
      split
      · exact .inl hf
      · exact .inr rfl
    · rename_i h2
      exact absurd h h2

-- months
theorem month_fin : ∀ m : Fin 12, wordR monthL 1 (monthT ((m.val : Int) + 1)) = ((m.val : Int) + 1, 0) ∧ ((monthT ((m.val : Int) + 1)).all fun c => c != 32) = true := by decide +kernel
theorem month_back {m : Int} (h : 1 ≤ m ∧ m ≤ 12) : wordR monthL 1 (monthT m) = (m, 0) ∧ ((monthT m).all fun c => c != 32) = true := by
  have := month_fin ⟨(m - 1).toNat, by omega⟩
  simp only [show (((m - 1).toNat : Nat) : Int) + 1 = m by omega] at this
  exact this
theorem findP_found {ps : List (Nat × List UInt8)} {s : List UInt8} {n : Nat} (h : ∀ p ∈ ps, p.1 < n) (hf : (findP ps s).2 = true) : (findP ps s).1 < n := by
  unfold findP at hf ⊢
  split
  · rename_i p hp
    exact h p (List.mem_of_find?_eq_some hp)
  · rename_i hp
    simp only [hp] at hf
    cases hl : ps.getLast? with
    | none =>
      rw [List.getLast?_eq_none_iff] at hl
      subst hl
      simp at hf
    | some p => exact h p (List.mem_of_getLast? hl)
theorem wordF_found {ws : List (List UInt8)} {s : List UInt8} (h : (wordF ws s).2 = true) : (wordF ws s).1 < ws.length := findP_found (fun p hp => (begTo_mem hp).1) h
theorem wordR_found {ws : List (List UInt8)} {f : Int} {s : List UInt8} (h : (wordR ws f s).2 = 0) : f ≤ (wordR ws f s).1 ∧ (wordR ws f s).1 < f + ws.length := by
  unfold wordR at h ⊢
  split at h
  · rename_i h1
    rw [if_pos h1]
    have := wordF_found h1
    simp only; omega
  · simp at h

-- days
set_option maxRecDepth 100000 in
theorem day_fin : ∀ k : Fin 5, ∀ wk : Fin 7, ∀ d : Fin 32, rightDay k.val wk.val d.val = true → parseR (dayText k.val wk.val d.val) = (((k.val : Int), (wk.val : Int), (d.val : Int)), 0) ∧ ((dayText k.val wk.val d.val).all fun c => c != 32) = true ∧ (dayText k.val wk.val d.val).length ≤ 9 := by decide +kernel
theorem day_back {k wk d : Int} (h : rightDay k wk d = true) : parseR (dayText k wk d) = ((k, wk, d), 0) ∧ ((dayText k wk d).all fun c => c != 32) = true ∧ (dayText k wk d).length ≤ 9 := by
  obtain ⟨h1, h2, h3, h4, h5, h6⟩ := right_bd h
  have := day_fin ⟨k.toNat, by omega⟩ ⟨wk.toNat, by omega⟩ ⟨d.toNat, by omega⟩
  simp only [show ((k.toNat : Nat) : Int) = k by omega, show ((wk.toNat : Nat) : Int) = wk by omega, show ((d.toNat : Nat) : Int) = d by omega] at this
  exact this h
theorem num_bd {l : List UInt8} (h : (numR l).2 = 0) : 1 ≤ (numR l).1 ∧ (numR l).1 ≤ 31 := by
  unfold numR at h ⊢
  split
  · rename_i a
    split
    · simp only; omega
    · rename_i h1; simp [h1] at h
  · rename_i a b
    split
    · split
      · simp only; omega
      · rename_i h1 h2; simp [h1, h2] at h
    · rename_i h1; simp [h1] at h
  · rename_i h1 h2; exact absurd h (by simp)
theorem week_bd {l : List UInt8} (h : (weekR l).2 = 0) : 0 ≤ (weekR l).1 ∧ (weekR l).1 ≤ 6 := by
  rw [← weekR_eq] at h ⊢
  have := wordR_found h
  have hl : weekL.length = 7 := rfl
  rw [hl] at this
  omega
theorem joinR_ok {k : Int} {a b : Int × Int} (h : (joinR k a b).2 = 0) : a.2 = 0 ∧ b.2 = 0 ∧ (joinR k a b).1 = (k, a.1, b.1) := by
  unfold joinR at h ⊢
  split at h
  · rename_i h1
    rw [if_pos h1]
    split at h
    · rename_i h2
      rw [if_pos h2]
      exact ⟨h1, h2, rfl⟩
    · rename_i h2; exact absurd h h2
  · rename_i h1; exact absurd h h1
theorem parse_right {l : List UInt8} (h : (parseR l).2 = 0) : rightDay (parseR l).1.1 (parseR l).1.2.1 (parseR l).1.2.2 = true := by
  unfold parseR at h ⊢
  split at h
  · rename_i h1
    rw [if_pos h1]
    obtain ⟨ha, hb, he⟩ := joinR_ok h
    unfold comparedR
    rw [he]
    have hw := week_bd ha
    have hn := num_bd hb
    simp only [rightDay, hw, hn]
    split <;> simp
  · rename_i h1
    rw [if_neg h1]
    split at h
    · rename_i h2
      rw [if_pos h2]
      obtain ⟨ha, hb, he⟩ := joinR_ok h
      rw [he]
      have hw := week_bd ha
      simp [rightDay, hw]
    · rename_i h2
      rw [if_neg h2]
      obtain ⟨ha, hb, he⟩ := joinR_ok h
      rw [he]
      have hn := num_bd hb
      simp [rightDay, hn]

-- amounts
theorem digLen_app : ∀ (n : Nat) (ds r : List UInt8), allD ds → ds.length ≤ n → (∀ c, r.head? = some c → ¬ (48 ≤ c.toNat ∧ c.toNat ≤ 57)) → digLen n (ds ++ r) = ds.length
  | 0, [], r, _, _, _ => rfl
  | n + 1, [], [], _, _, _ => rfl
  | n + 1, [], c :: r, _, _, h => if_neg (h c rfl)
  | n + 1, a :: ds, r, hd, hl, h => by
    have ih := digLen_app n ds r (fun c hc => hd c (List.mem_cons_of_mem _ hc)) (by simp at hl; omega) h
    show (if 48 ≤ a.toNat ∧ a.toNat ≤ 57 then digLen n (ds ++ r) + 1 else 0) = _
    rw [if_pos (hd a (by simp)), ih]; rfl
theorem two_fin : ∀ n : Fin 60, (twoT n.val).length = 2 ∧ ((twoT n.val).all fun c => decide (48 ≤ c.toNat ∧ c.toNat ≤ 57)) = true ∧ valD (twoT n.val) = n.val := by decide +kernel
theorem two_of {n : Nat} (h : n < 60) : ∃ a b : UInt8, twoT n = [a, b] ∧ (48 ≤ a.toNat ∧ a.toNat ≤ 57) ∧ (48 ≤ b.toNat ∧ b.toNat ≤ 57) ∧ valD [a, b] = n := by
  obtain ⟨h1, h2, h3⟩ := two_fin ⟨n, h⟩
  simp only at h1 h2 h3
  match ht : twoT n, h1 with
  | [a, b], _ =>
    rw [ht] at h2 h3
    simp only [List.all_cons, List.all_nil, Bool.and_true, Bool.and_eq_true, decide_eq_true_eq] at h2
    exact ⟨a, b, rfl, h2.1, h2.2, h3⟩
theorem part_back {n : Nat} (h : n < 60) (r : List UInt8) : partR (58 :: (twoT n ++ r)) = some (n, r) := by
  obtain ⟨a, b, ht, ha, hb, hv⟩ := two_of h
  have hd : digLen 2 (a :: b :: r) = 2 := by simp [digLen, ha, hb]
  rw [ht]
  show (if (58 : UInt8) = 58 ∧ digLen 2 (a :: b :: r) = 2 ∧ valD [a, b] ≤ 59 then some (valD [a, b], r) else none) = _
  rw [hv, if_pos ⟨rfl, hd, by omega⟩]
theorem dec3 {n : Nat} (h : n < 1000) : (Lib.decDigits n).length ≤ 3 := dig_len n h
theorem hours_back {n : Nat} (h : n < 1000) (r : List UInt8) : hoursR (Lib.decDigits n ++ 58 :: r) = some (n, 58 :: r) := by
  obtain ⟨ha, hv, hne, h0⟩ := dec_all n
  have hk : digLen 3 (Lib.decDigits n ++ 58 :: r) = (Lib.decDigits n).length := digLen_app 3 _ _ ha (dec3 h) (by intro c hc; cases hc; decide)
  have hlen : (Lib.decDigits n).length ≠ 0 := by simpa using hne
  have hh : ¬ (1 < (Lib.decDigits n).length ∧ (Lib.decDigits n ++ 58 :: r).head? = some 48) := by
    rintro ⟨hl, hh⟩
    by_cases hn : n = 0
    · subst hn
      exact absurd hl (by decide +kernel)
    · refine h0 hn ?_
      cases hd : Lib.decDigits n with
      | nil => exact absurd hd hne
      | cons c t => rw [hd] at hh; exact hh
  unfold hoursR
  simp only [hk]
  rw [if_neg (by rintro (h | h); exact hlen h; exact hh h)]
  simp [hv]
def tailT (s : Nat) : List UInt8 := if s ≠ 0 then [58] ++ twoT s else []
theorem offT_eq (n : Nat) : offT n = Lib.decDigits (n / 3600) ++ 58 :: (twoT (n / 60 % 60) ++ tailT (n % 60)) := by simp [offT, tailT]
theorem form_back {n : Nat} (h : n ≤ 604799) : formR (offT n) = some n := by
  have s1 : stR (offT n) 1 = some (58 :: (twoT (n / 60 % 60) ++ tailT (n % 60)), n / 3600, 0, 0) := by
    rw [offT_eq]
    show stepR 0 (_, 0, 0, 0) = _
    rw [stepR, if_pos rfl, hours_back (by omega)]; rfl
  have s2 : stR (offT n) 2 = some (tailT (n % 60), n / 3600, n / 60 % 60, 0) := by
    refine st_next s1 ?_
    rw [stepR, if_neg (by decide), if_neg (by simp), if_pos rfl, part_back (Nat.mod_lt _ (by omega))]; rfl
  have s3 : stR (offT n) 3 = some ([], n / 3600, n / 60 % 60, n % 60) := by
    refine st_next s2 ?_
    by_cases hs : n % 60 = 0
    · rw [hs]; rfl
    · have ht : tailT (n % 60) = 58 :: (twoT (n % 60) ++ []) := by rw [tailT, if_pos hs]; simp
      rw [stepR, if_neg (by decide), if_neg (by rw [ht]; simp), if_neg (by decide)]
      simp only [ht]
      rw [part_back (Nat.mod_lt _ (by omega))]; rfl
  rw [formR, s3]
  simp only [Option.bind_some]
  rw [if_pos trivial]
  congr 1; omega
theorem off_bytes {n : Nat} : ∀ c ∈ offT n, 48 ≤ c.toNat ∧ c.toNat ≤ 58 := by
  have hd : ∀ m : Nat, ∀ c ∈ Lib.decDigits m, 48 ≤ c.toNat ∧ c.toNat ≤ 58 := fun m c hc => by have := (dec_all m).1 c hc; omega
  have ht : ∀ m : Nat, ∀ c ∈ twoT m, 48 ≤ c.toNat ∧ c.toNat ≤ 58 := fun m c hc => by
    unfold twoT at hc
    split at hc
    · rcases List.mem_cons.1 hc with rfl | hc
      · decide
      · exact hd m c hc
    · exact hd m c hc
  intro c hc
  rw [offT_eq] at hc
  rcases List.mem_append.1 hc with hc | hc
  · exact hd _ c hc
  · rcases List.mem_cons.1 hc with rfl | hc
    · decide
    · rcases List.mem_append.1 hc with hc | hc
      · exact ht _ c hc
      · unfold tailT at hc
        split at hc
        · rcases List.mem_cons.1 hc with rfl | hc
          · decide
          · exact ht _ c (by simpa using hc)
        · simp at hc
theorem off_head {n : Nat} : (offT n).head? ≠ some 45 := by
  intro h
  have := off_bytes 45 (List.mem_of_head? h)
  exact absurd this (by decide)
theorem off_last {n : Nat} : ∃ c, (offT n).getLast? = some c ∧ 48 ≤ c.toNat ∧ c.toNat ≤ 57 := by
  have hd : ∀ m : Nat, ∃ c, (twoT m).getLast? = some c ∧ 48 ≤ c.toNat ∧ c.toNat ≤ 57 := fun m => by
    obtain ⟨ha, _, hne, _⟩ := dec_all m
    obtain ⟨c, hc⟩ : ∃ c, (Lib.decDigits m).getLast? = some c := ⟨_, List.getLast?_eq_some_getLast hne⟩
    refine ⟨c, ?_, ha c (List.mem_of_getLast? hc)⟩
    unfold twoT
    split
    · rw [List.getLast?_cons, hc]; rfl
    · exact hc
  rw [offT_eq]
  by_cases hs : n % 60 = 0
  · obtain ⟨c, hc, hb⟩ := hd (n / 60 % 60)
    refine ⟨c, ?_, hb⟩
    rw [show tailT (n % 60) = [] by rw [hs]; rfl, List.append_nil, List.getLast?_append, List.getLast?_cons, hc]; rfl
  · obtain ⟨c, hc, hb⟩ := hd (n % 60)
    refine ⟨c, ?_, hb⟩
    rw [show tailT (n % 60) = 58 :: twoT (n % 60) by rw [tailT, if_pos hs]; rfl, List.getLast?_append, List.getLast?_cons, List.getLast?_append, List.getLast?_cons, hc]; rfl
theorem off_back {x : Int} (h : -604799 ≤ x ∧ x ≤ 604799) : offParseR (offTx x) = (x, 0) := by
  by_cases hx : x < 0
  · have ht : offTx x = 45 :: offT x.natAbs := by rw [offTx, if_pos hx]; rfl
    rw [ht, offParseR]
    simp only [List.head?_cons, List.tail_cons, if_true, true_and]
    rw [form_back (by omega)]
    simp only
    rw [if_neg (by omega), if_neg (by omega)]
    congr 1; omega
  · have ht : offTx x = offT x.natAbs := by rw [offTx, if_neg hx]; rfl
    rw [ht, offParseR]
    simp only [off_head, if_false, false_and]
    rw [form_back (by omega)]
    simp only
    rw [if_neg (by omega)]
    congr 1; omega
theorem off_bd {l : List UInt8} (h : (offParseR l).2 = 0) : -604799 ≤ (offParseR l).1 ∧ (offParseR l).1 ≤ 604799 := by
  unfold offParseR at h ⊢
  simp only at h ⊢
  split
  · rename_i hf; simp [hf] at h
  · rename_i x hf
    rw [hf] at h
    simp only at h ⊢
    split
    · simp
    · split
      · simp
      · split <;> simp only <;> omega

-- clocks
theorem cut_off {x b : Int} (hb : 0 ≤ b ∧ b ≤ 2) : cutR (clockT x b) = (offTx x, b) := by
  have hT : clockT x b = offTx x ++ (if b = 1 then [115] else if b = 2 then [117] else []) := rfl
  rw [hT]
  rcases (by omega : b = 0 ∨ b = 1 ∨ b = 2) with rfl | rfl | rfl
  · obtain ⟨c, hc, hd⟩ := off_last (n := x.natAbs)
    have hl : (offTx x).getLast? = some c := by rw [offTx, List.getLast?_append, hc]; rfl
    have hn : baseOf c.toNat = none := by
      unfold baseOf
      rw [if_neg (by omega), if_neg (by omega), if_neg (by omega)]
    show cutR (offTx x ++ []) = _
    rw [List.append_nil, cutR, hl]
    simp only [Option.bind_some, hn]
  · show cutR (offTx x ++ [115]) = _
    rw [cutR]
    simp [baseOf]
  · show cutR (offTx x ++ [117]) = _
    rw [cutR]
    simp [baseOf]
theorem clock_back {x b : Int} (h : clockOk x b = true) : clockR (clockT x b) = ((x, b), 0) := by
  simp only [clockOk, Bool.and_eq_true, decide_eq_true_eq] at h
  rw [clockR, cut_off h.2, off_back h.1]; rfl
theorem cut_base {l : List UInt8} : 0 ≤ (cutR l).2 ∧ (cutR l).2 ≤ 2 := by
  unfold cutR
  split
  · rename_i b hb
    cases hl : l.getLast? with
    | none => simp [hl] at hb
    | some c =>
      rw [hl] at hb
      have := base_lt (show baseOf c.toNat = some b from hb)
      simp only; omega
  · simp
theorem clock_right {l : List UInt8} (h : (clockR l).2 = 0) : clockOk (clockR l).1.1 (clockR l).1.2 = true := by
  unfold clockR at h ⊢
  split at h
  · rename_i h1
    rw [if_pos h1]
    simp only [clockOk, Bool.and_eq_true, decide_eq_true_eq]
    exact ⟨off_bd h1, cut_base⟩
  · rename_i h1
    exact absurd h h1

-- letters
theorem lett_back {l : List UInt8} (h : l = [] ∨ ofB 1 4 1 l = true) : letterR (lettT l) = (l, 0) := by
  rcases h with rfl | h
  · rfl
  · have h0 : l ≠ [] := by rintro rfl; exact absurd h (by decide)
    have h1 : l ≠ [45] := by rintro rfl; exact absurd h (by decide)
    rw [lettT, if_neg h0, letterR, if_neg h1, if_pos h]
theorem lett_right {l : List UInt8} (h : (letterR l).2 = 0) : (letterR l).1 = [] ∨ ofB 1 4 1 (letterR l).1 = true := by
  unfold letterR at h ⊢
  split at h
  · rename_i h1; rw [if_pos h1]; exact .inl rfl
  · rename_i h1
    rw [if_neg h1]
    split at h
    · rename_i h2; rw [if_pos h2]; exact .inr h2
    · simp at h
theorem set_back {l : List UInt8} (h : setB l = true) : setR l = (l, 0) := if_pos h
theorem set_right {l : List UInt8} (h : (setR l).2 = 0) : setB (setR l).1 = true := by
  unfold setR at h ⊢
  split at h
  · rename_i h1; rw [if_pos h1]; exact h1
  · simp at h

-- the rule
theorem rule_back {r : RuleP} (h : RuleRight r) : ruleR (ruleFs r) = (r, 0) := by
  have e0 := set_back h.name
  have e1 := year_back h.frm
  have e2 := until_back (f := r.frm) h.til
  have e4 := (month_back h.mon).1
  have e5 := (day_back h.day).1
  have e6 := clock_back h.hour
  have e7 := off_back h.save
  have e8 := lett_back h.lett
  simp only [ruleR, ruleFs, errsR, uptoR, e0, e1, e2, e4, e5, e6, e7, e8, firstE, if_true]
  rfl
theorem firstE_zero : ∀ {es : List Int}, firstE es = 0 → ∀ e ∈ es, e = 0
  | [], _, e, he => by simp at he
  | a :: es, h, e, he => by
    by_cases ha : a = 0
    · rw [firstE, if_pos ha] at h
      rcases List.mem_cons.1 he with rfl | he
      · exact ha
      · exact firstE_zero h e he
    · rw [firstE, if_neg ha] at h
      exact absurd h ha
theorem rule_right {l : List (List UInt8)} (h : (ruleR l).2 = 0) : RuleRight (ruleR l).1 ∧ l.length = 9 := by
  unfold ruleR at h ⊢
  split
  · rename_i a0 a1 a2 a3 a4 a5 a6 a7 a8
    simp only at h
    split at h
    · rename_i h3
      rw [if_pos h3]
      split at h
      · rename_i hE
        rw [if_pos hE]
        have hz := firstE_zero hE
        have g1 : (yearR a1).2 = 0 := hz _ (by simp [errsR])
        refine ⟨⟨parse_right (hz _ (by simp [errsR])), clock_right (hz _ (by simp [errsR])), off_bd (hz _ (by simp [errsR])), set_right (hz _ (by simp [errsR])), year_named g1, until_named (year_named g1) (hz _ (by simp [errsR])), ?_, lett_right (hz _ (by simp [errsR]))⟩, rfl⟩
        have := wordR_found (show (wordR monthL 1 a4).2 = 0 from hz _ (by simp [errsR]))
        have hl : monthL.length = 12 := rfl
        rw [hl] at this
        exact ⟨this.1, by show (wordR monthL 1 a4).1 ≤ 12; omega⟩
      · rename_i hE; exact absurd h hE
    · exact absurd h (by decide)
  · rename_i hno
    exfalso
    revert h
    split
    · rename_i a0 a1 a2 a3 a4 a5 a6 a7 a8
      exact absurd rfl (hno _ _ _ _ _ _ _ _ _)
    · intro h; exact absurd h (by decide)
theorem rule_none {l : List (List UInt8)} (h : (ruleR l).2 ≠ 0) : (ruleR l).1 = RuleP.none := by
  unfold ruleR at h ⊢
  split
  · split
    · split
      · rename_i h1 h2
        simp only [h1, h2, if_true] at h
        exact absurd rfl h
      · rfl
    · rfl
  · rfl

-- words
def wStep (st : List (List UInt8) × List UInt8) (c : UInt8) : List (List UInt8) × List UInt8 := if c = 32 then (st.1 ++ [st.2], []) else (st.1, st.2 ++ [c])
def wFold (l : List UInt8) : List (List UInt8) × List UInt8 := l.foldl wStep ([], [])
def wordsR (l : List UInt8) : List (List UInt8) := (wFold l).1 ++ [(wFold l).2]
theorem fold_plain : ∀ (a : List UInt8) (d : List (List UInt8)) (cur : List UInt8), (∀ c ∈ a, c ≠ 32) → a.foldl wStep (d, cur) = (d, cur ++ a)
  | [], d, cur, _ => by simp
  | c :: a, d, cur, h => by
    rw [List.foldl_cons, show wStep (d, cur) c = (d, cur ++ [c]) from if_neg (h c (by simp)), fold_plain a d _ fun x hx => h x (List.mem_cons_of_mem _ hx)]
    simp
theorem fold_join : ∀ (fs : List (List UInt8)) (d : List (List UInt8)), fs ≠ [] → (∀ a ∈ fs, ∀ c ∈ a, c ≠ 32) → ((joinS fs).foldl wStep (d, [])).1 ++ [((joinS fs).foldl wStep (d, [])).2] = d ++ fs
  | [], d, h, _ => absurd rfl h
  | a :: r, d, _, h => by
    by_cases hr : r = []
    · subst hr
      rw [show joinS [a] = a from if_pos rfl, fold_plain a d [] (h a (by simp))]; simp
    · rw [show joinS (a :: r) = a ++ 32 :: joinS r from if_neg hr, List.foldl_append, fold_plain a d [] (h a (by simp)), List.foldl_cons, show wStep (d, [] ++ a) 32 = (d ++ [a], []) by simp [wStep], fold_join r (d ++ [a]) hr fun x hx => h x (List.mem_cons_of_mem _ hx)]
      simp
theorem words_join {fs : List (List UInt8)} (h0 : fs ≠ []) (h : ∀ a ∈ fs, ∀ c ∈ a, c ≠ 32) : wordsR (joinS fs) = fs := by
  have := fold_join fs [] h0 h
  simpa [wordsR, wFold] using this
theorem wFold_snoc (l : List UInt8) (c : UInt8) : wFold (l ++ [c]) = wStep (wFold l) c := by simp [wFold]
theorem ofB_plain {a b m : Nat} {l : List UInt8} (h : ofB a b m l = true) : ∀ c ∈ l, c ≠ 32 := by
  intro c hc he
  subst he
  simp only [ofB, Bool.and_eq_true, List.all_eq_true] at h
  have := h.2 32 hc
  rw [show kindN (UInt8.toNat 32) = 0 by decide, Nat.zero_and] at this
  exact absurd this (by decide)
theorem all_plain {l : List UInt8} (h : (l.all fun c => c != 32) = true) : ∀ c ∈ l, c ≠ 32 := by
  intro c hc
  have := List.all_eq_true.1 h c hc
  simpa using this
theorem dec_plain (n : Nat) : ∀ c ∈ Lib.decDigits n, c ≠ 32 := by
  rintro c hc rfl
  have := (dec_all n).1 32 hc
  exact absurd this (by decide)
theorem off_plain (x : Int) : ∀ c ∈ offTx x, c ≠ 32 := by
  rintro c hc rfl
  rcases List.mem_append.1 hc with hc | hc
  · split at hc <;> simp at hc
  · have := off_bytes 32 hc
    exact absurd this (by decide)
theorem fields_plain {r : RuleP} (h : RuleRight r) : ∀ a ∈ ruleB :: ruleFs r, ∀ c ∈ a, c ≠ 32 := by
  intro a ha
  simp only [ruleFs, List.mem_cons, List.not_mem_nil, or_false] at ha
  rcases ha with rfl | rfl | rfl | rfl | rfl | rfl | rfl | rfl | rfl | rfl
  · exact all_plain (by decide)
  · have := h.name
    simp only [setB, Bool.and_eq_true] at this
    exact ofB_plain this.1
  · obtain ⟨n, hn, _⟩ := named_nat h.frm
    rw [hn, itoa_nat]; exact dec_plain n
  · unfold lastT
    split
    · exact all_plain (by decide)
    · split
      · exact all_plain (by decide)
      · rename_i h1
        obtain ⟨n, hn, _⟩ := named_nat (h.til.resolve_right h1)
        rw [hn, itoa_nat]; exact dec_plain n
  · exact all_plain (by decide)
  · exact all_plain (month_back h.mon).2
  · exact all_plain (day_back h.day).2.1
  · intro c hc
    rcases List.mem_append.1 hc with hc | hc
    · exact off_plain _ c hc
    · split at hc
      · simp at hc; subst hc; decide
      · split at hc
        · simp at hc; subst hc; decide
        · simp at hc
  · exact off_plain _
  · unfold lettT
    split
    · exact all_plain (by decide)
    · rename_i h1
      exact ofB_plain (h.lett.resolve_left h1)
theorem words_rule {r : RuleP} (h : RuleRight r) : wordsR (ruleT r) = ruleB :: ruleFs r := words_join (by simp) (fields_plain h)
theorem ruleT_inj {r x : RuleP} (hr : RuleRight r) (hx : RuleRight x) (h : ruleT r = ruleT x) : r = x := by
  have h1 := words_rule hr
  have h2 := words_rule hx
  rw [h, h2] at h1
  have h3 : ruleFs x = ruleFs r := by simpa using h1
  have h4 := rule_back hr
  rw [← h3, rule_back hx] at h4
  exact (Prod.mk.inj h4).1.symm
end Go.Proofs.YtgfnnmdngckmmaaGreatDoor
