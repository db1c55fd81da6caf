/-
  Plain facts that readers and printers of lines share: years, words, days, amounts, clocks, and lines cut at spaces.
-/
import Derived.Test.YtbdmieelokmhiaaGreatDoorClock
import Derived.Test.YtbdmieelokmhiaaGreatDoorYear
import Derived.Test.YtbdmieelokmhiaaGreatDoorMonth
import Derived.Test.YtbdmieelokmhiaaGreatDoorName
import Derived.Test.YtbdmieelokmhiaaGreatDoorDayParse
import Derived.Test.YtbdmieelokmhiaaGreatDoorDayPrint
import Derived.Handy
set_option linter.unusedVariables false
namespace Go.Proofs.YtbdmieelokmhiaaGreatDoor
open Go.RowKit

def offTx (x : Int) : List UInt8 := (if x < 0 then [45] else []) ++ offT x.natAbs
def joinS : List (List UInt8) → List UInt8
  | [] => []
  | a :: r => if r = [] then a else a ++ 32 :: joinS r
-- years
theorem itoa_nat (n : Nat) : Lib.itoa (n : Int) = Lib.decDigits n := by simp [Lib.itoa]
theorem named_nat {y : Int} (h : namedB y = true) : ∃ n : Nat, y = (n : Int) ∧ 1850 ≤ n ∧ n ≤ 2149 := by
  have h := of_decide_eq_true h
  exact ⟨y.toNat, by omega, by omega, by omega⟩
theorem year_back {y : Int} (h : namedB y = true) : yearR (Lib.itoa y) = (y, 0) := by
  obtain ⟨n, rfl, h1, h2⟩ := named_nat h
  obtain ⟨_, hv, _, _⟩ := dec_all n
  rw [itoa_nat, yearR, if_pos (isYear_dec n (by omega) (by omega)), hv, if_pos ⟨h1, h2⟩]
theorem year_named {l : List UInt8} (h : (yearR l).2 = 0) : namedB (yearR l).1 = true := by
  unfold yearR at h ⊢
  split at h
  · split at h
    · rename_i h1 h2
      rw [if_pos h1, if_pos h2]
      exact decide_eq_true (by simp only; omega)
    · simp at h
  · simp at h
theorem dec_head {n : Nat} : ∃ c, (Lib.decDigits n).head? = some c ∧ 48 ≤ c.toNat ∧ c.toNat ≤ 57 := by
  obtain ⟨ha, _, hn, _⟩ := dec_all n
  cases hl : Lib.decDigits n with
  | nil => exact absurd hl hn
  | cons c r => exact ⟨c, rfl, ha c (by rw [hl]; simp)⟩
-- months
theorem month_fin : ∀ m : Fin 12, wordR monthL 1 (monthT ((m.val : Int) + 1)) = ((m.val : Int) + 1, 0) ∧ ((monthT ((m.val : Int) + 1)).all fun c => c != 32) = true := by decide +kernel
theorem month_back {m : Int} (h : 1 ≤ m ∧ m ≤ 12) : wordR monthL 1 (monthT m) = (m, 0) ∧ ((monthT m).all fun c => c != 32) = true := by
  have := month_fin ⟨(m - 1).toNat, by omega⟩
  simp only [show (((m - 1).toNat : Nat) : Int) + 1 = m by omega] at this
  exact this
theorem findP_found {ps : List (Nat × List UInt8)} {s : List UInt8} {n : Nat} (h : ∀ p ∈ ps, p.1 < n) (hf : (findP ps s).2 = true) : (findP ps s).1 < n := by
  unfold findP at hf ⊢
  split
  · rename_i p hp
    exact h p (List.mem_of_find?_eq_some hp)
  · rename_i hp
    simp only [hp] at hf
    cases hl : ps.getLast? with
    | none =>
      rw [List.getLast?_eq_none_iff] at hl
      subst hl
      simp at hf
    | some p => exact h p (List.mem_of_getLast? hl)
theorem wordF_found {ws : List (List UInt8)} {s : List UInt8} (h : (wordF ws s).2 = true) : (wordF ws s).1 < ws.length := findP_found (fun p hp => (begTo_mem hp).1) h
theorem wordR_found {ws : List (List UInt8)} {f : Int} {s : List UInt8} (h : (wordR ws f s).2 = 0) : f ≤ (wordR ws f s).1 ∧ (wordR ws f s).1 < f + ws.length := by
  unfold wordR at h ⊢
  split at h
  · rename_i h1
    rw [if_pos h1]
    have := wordF_found h1
    simp only; omega
  · simp at h

-- days
set_option maxRecDepth 100000 in
theorem day_fin : ∀ k : Fin 5, ∀ wk : Fin 7, ∀ d : Fin 32, rightDay k.val wk.val d.val = true → parseR (dayText k.val wk.val d.val) = (((k.val : Int), (wk.val : Int), (d.val : Int)), 0) ∧ ((dayText k.val wk.val d.val).all fun c => c != 32) = true ∧ (dayText k.val wk.val d.val).length ≤ 9 := by decide +kernel
theorem day_back {k wk d : Int} (h : rightDay k wk d = true) : parseR (dayText k wk d) = ((k, wk, d), 0) ∧ ((dayText k wk d).all fun c => c != 32) = true ∧ (dayText k wk d).length ≤ 9 := by
  obtain ⟨h1, h2, h3, h4, h5, h6⟩ := right_bd h
  have := day_fin ⟨k.toNat, by omega⟩ ⟨wk.toNat, by omega⟩ ⟨d.toNat, by omega⟩
  simp only [show ((k.toNat : Nat) : Int) = k by omega, show ((wk.toNat : Nat) : Int) = wk by omega, show ((d.toNat : Nat) : Int) = d by omega] at this
  exact this h
theorem num_bd {l : List UInt8} (h : (numR l).2 = 0) : 1 ≤ (numR l).1 ∧ (numR l).1 ≤ 31 := by
  unfold numR at h ⊢
  split
  · rename_i a
    split
    · simp only; omega
    · rename_i h1; simp [h1] at h
  · rename_i a b
    split
    · split
      · simp only; omega
      · rename_i h1 h2; simp [h1, h2] at h
    · rename_i h1; simp [h1] at h
  · rename_i h1 h2; exact absurd h (by simp)
theorem week_bd {l : List UInt8} (h : (weekR l).2 = 0) : 0 ≤ (weekR l).1 ∧ (weekR l).1 ≤ 6 := by
  rw [← weekR_eq] at h ⊢
  have := wordR_found h
  have hl : weekL.length = 7 := rfl
  rw [hl] at this
  omega
theorem joinR_ok {k : Int} {a b : Int × Int} (h : (joinR k a b).2 = 0) : a.2 = 0 ∧ b.2 = 0 ∧ (joinR k a b).1 = (k, a.1, b.1) := by
  unfold joinR at h ⊢
  split at h
  · rename_i h1
    rw [if_pos h1]
    split at h
    · rename_i h2
      rw [if_pos h2]
      exact ⟨h1, h2, rfl⟩
    · rename_i h2; exact absurd h h2
  · rename_i h1; exact absurd h h1
theorem parse_right {l : List UInt8} (h : (parseR l).2 = 0) : rightDay (parseR l).1.1 (parseR l).1.2.1 (parseR l).1.2.2 = true := by
  unfold parseR at h ⊢
  split at h
  · rename_i h1
    rw [if_pos h1]
    obtain ⟨ha, hb, he⟩ := joinR_ok h
    unfold comparedR
    rw [he]
    have hw := week_bd ha
    have hn := num_bd hb
    simp only [rightDay, hw, hn]
    split <;> simp
  · rename_i h1
    rw [if_neg h1]
    split at h
    · rename_i h2
      rw [if_pos h2]
      obtain ⟨ha, hb, he⟩ := joinR_ok h
      rw [he]
      have hw := week_bd ha
      simp [rightDay, hw]
    · rename_i h2
      rw [if_neg h2]
      obtain ⟨ha, hb, he⟩ := joinR_ok h
      rw [he]
      have hn := num_bd hb
      simp [rightDay, hn]

-- amounts
theorem digLen_app : ∀ (n : Nat) (ds r : List UInt8), allD ds → ds.length ≤ n → (∀ c, r.head? = some c → ¬ (48 ≤ c.toNat ∧ c.toNat ≤ 57)) → digLen n (ds ++ r) = ds.length
  | 0, [], r, _, _, _ => rfl
  | n + 1, [], [], _, _, _ => rfl
  | n + 1, [], c :: r, _, _, h => if_neg (h c rfl)
  | n + 1, a :: ds, r, hd, hl, h => by
    have ih := digLen_app n ds r (fun c hc => hd c (List.mem_cons_of_mem _ hc)) (by simp at hl; omega) h
    show (if 48 ≤ a.toNat ∧ a.toNat ≤ 57 then digLen n (ds ++ r) + 1 else 0) = _
    rw [if_pos (hd a (by simp)), ih]; rfl
theorem two_fin : ∀ n : Fin 60, (twoT n.val).length = 2 ∧ ((twoT n.val).all fun c => decide (48 ≤ c.toNat ∧ c.toNat ≤ 57)) = true ∧ valD (twoT n.val) = n.val := by decide +kernel
theorem two_of {n : Nat} (h : n < 60) : ∃ a b : UInt8, twoT n = [a, b] ∧ (48 ≤ a.toNat ∧ a.toNat ≤ 57) ∧ (48 ≤ b.toNat ∧ b.toNat ≤ 57) ∧ valD [a, b] = n := by
  obtain ⟨h1, h2, h3⟩ := two_fin ⟨n, h⟩
  simp only at h1 h2 h3
  match ht : twoT n, h1 with
  | [a, b], _ =>
    rw [ht] at h2 h3
    simp only [List.all_cons, List.all_nil, Bool.and_true, Bool.and_eq_true, decide_eq_true_eq] at h2
    exact ⟨a, b, rfl, h2.1, h2.2, h3⟩
theorem part_back {n : Nat} (h : n < 60) (r : List UInt8) : partR (58 :: (twoT n ++ r)) = some (n, r) := by
  obtain ⟨a, b, ht, ha, hb, hv⟩ := two_of h
  have hd : digLen 2 (a :: b :: r) = 2 := by simp [digLen, ha, hb]
  rw [ht]
  show (if (58 : UInt8) = 58 ∧ digLen 2 (a :: b :: r) = 2 ∧ valD [a, b] ≤ 59 then some (valD [a, b], r) else none) = _
  rw [hv, if_pos ⟨rfl, hd, by omega⟩]
theorem dec3 {n : Nat} (h : n < 1000) : (Lib.decDigits n).length ≤ 3 := dig_len n h
theorem hours_back {n : Nat} (h : n < 1000) (r : List UInt8) : hoursR (Lib.decDigits n ++ 58 :: r) = some (n, 58 :: r) := by
  obtain ⟨ha, hv, hne, h0⟩ := dec_all n
  have hk : digLen 3 (Lib.decDigits n ++ 58 :: r) = (Lib.decDigits n).length := digLen_app 3 _ _ ha (dec3 h) (by intro c hc; cases hc; decide)
  have hlen : (Lib.decDigits n).length ≠ 0 := by simpa using hne
  have hh : ¬ (1 < (Lib.decDigits n).length ∧ (Lib.decDigits n ++ 58 :: r).head? = some 48) := by
    rintro ⟨hl, hh⟩
    by_cases hn : n = 0
    · subst hn
      exact absurd hl (by decide +kernel)
    · refine h0 hn ?_
      cases hd : Lib.decDigits n with
      | nil => exact absurd hd hne
      | cons c t => rw [hd] at hh; exact hh
  unfold hoursR
  simp only [hk]
  rw [if_neg (by rintro (h | h); exact hlen h; exact hh h)]
  simp [hv]
def tailT (s : Nat) : List UInt8 := if s ≠ 0 then [58] ++ twoT s else []
theorem offT_eq (n : Nat) : offT n = Lib.decDigits (n / 3600) ++ 58 :: (twoT (n / 60 % 60) ++ tailT (n % 60)) := by simp [offT, tailT]
theorem form_back {n : Nat} (h : n ≤ 604799) : formR (offT n) = some n := by
  have s1 : stR (offT n) 1 = some (58 :: (twoT (n / 60 % 60) ++ tailT (n % 60)), n / 3600, 0, 0) := by
    rw [offT_eq]
    show stepR 0 (_, 0, 0, 0) = _
    rw [stepR, if_pos rfl, hours_back (by omega)]; rfl
  have s2 : stR (offT n) 2 = some (tailT (n % 60), n / 3600, n / 60 % 60, 0) := by
    refine st_next s1 ?_
    rw [stepR, if_neg (by decide), if_neg (by simp), if_pos rfl, part_back (Nat.mod_lt _ (by omega))]; rfl
  have s3 : stR (offT n) 3 = some ([], n / 3600, n / 60 % 60, n % 60) := by
    refine st_next s2 ?_
    by_cases hs : n % 60 = 0
    · rw [hs]; rfl
    · have ht : tailT (n % 60) = 58 :: (twoT (n % 60) ++ []) := by rw [tailT, if_pos hs]; simp
      rw [stepR, if_neg (by decide), if_neg (by rw [ht]; simp), if_neg (by decide)]
      simp only [ht]
      rw [part_back (Nat.mod_lt _ (by omega))]; rfl
  rw [formR, s3]
  simp only [Option.bind_some]
  rw [if_pos trivial]
  congr 1; omega
theorem off_bytes {n : Nat} : ∀ c ∈ offT n, 48 ≤ c.toNat ∧ c.toNat ≤ 58 := by
  have hd : ∀ m : Nat, ∀ c ∈ Lib.decDigits m, 48 ≤ c.toNat ∧ c.toNat ≤ 58 := fun m c hc => by have := (dec_all m).1 c hc; omega
  have ht : ∀ m : Nat, ∀ c ∈ twoT m, 48 ≤ c.toNat ∧ c.toNat ≤ 58 := fun m c hc => by
    unfold twoT at hc
    split at hc
    · rcases List.mem_cons.1 hc with rfl | hc
      · decide
      · exact hd m c hc
    · exact hd m c hc
  intro c hc
  rw [offT_eq] at hc
  rcases List.mem_append.1 hc with hc | hc
  · exact hd _ c hc
  · rcases List.mem_cons.1 hc with rfl | hc
    · decide
    · rcases List.mem_append.1 hc with hc | hc
      · exact ht _ c hc
      · unfold tailT at hc
        split at hc
        · rcases List.mem_cons.1 hc with rfl | hc
          · decide
          · exact ht _ c (by simpa using hc)
        · simp at hc
theorem off_head {n : Nat} : (offT n).head? ≠ some 45 := by
  intro h
  have := off_bytes 45 (List.mem_of_head? h)
  exact absurd this (by decide)
theorem off_last {n : Nat} : ∃ c, (offT n).getLast? = some c ∧ 48 ≤ c.toNat ∧ c.toNat ≤ 57 := by
  have hd : ∀ m : Nat, ∃ c, (twoT m).getLast? = some c ∧ 48 ≤ c.toNat ∧ c.toNat ≤ 57 := fun m => by
    obtain ⟨ha, _, hne, _⟩ := dec_all m
    obtain ⟨c, hc⟩ : ∃ c, (Lib.decDigits m).getLast? = some c := ⟨_, List.getLast?_eq_some_getLast hne⟩
    refine ⟨c, ?_, ha c (List.mem_of_getLast? hc)⟩
    unfold twoT
    split
    · rw [List.getLast?_cons, hc]; rfl
    · exact hc
  rw [offT_eq]
  by_cases hs : n % 60 = 0
  · obtain ⟨c, hc, hb⟩ := hd (n / 60 % 60)
    refine ⟨c, ?_, hb⟩
    rw [show tailT (n % 60) = [] by rw [hs]; rfl, List.append_nil, List.getLast?_append, List.getLast?_cons, hc]; rfl
  · obtain ⟨c, hc, hb⟩ := hd (n % 60)
    refine ⟨c, ?_, hb⟩
    rw [show tailT (n % 60) = 58 :: twoT (n % 60) by rw [tailT, if_pos hs]; rfl, List.getLast?_append, List.getLast?_cons, List.getLast?_append, List.getLast?_cons, hc]; rfl
theorem off_back {x : Int} (h : -604799 ≤ x ∧ x ≤ 604799) : offParseR (offTx x) = (x, 0) := by
  by_cases hx : x < 0
  · have ht : offTx x = 45 :: offT x.natAbs := by rw [offTx, if_pos hx]; rfl
    rw [ht, offParseR]
    simp only [List.head?_cons, List.tail_cons, if_true, true_and]
    rw [form_back (by omega)]
    simp only
    rw [if_neg (by omega), if_neg (by omega)]
    congr 1; omega
  · have ht : offTx x = offT x.natAbs := by rw [offTx, if_neg hx]; rfl
    rw [ht, offParseR]
    simp only [off_head, if_false, false_and]
    rw [form_back (by omega)]
    simp only
    rw [if_neg (by omega)]
    congr 1; omega
theorem off_bd {l : List UInt8} (h : (offParseR l).2 = 0) : -604799 ≤ (offParseR l).1 ∧ (offParseR l).1 ≤ 604799 := by
  unfold offParseR at h ⊢
  simp only at h ⊢
  split
  · rename_i hf; simp [hf] at h
  · rename_i x hf
    rw [hf] at h
    simp only at h ⊢
    split
    · simp
    · split
      · simp
      · split <;> simp only <;> omega

-- clocks
theorem cut_off {x b : Int} (hb : 0 ≤ b ∧ b ≤ 2) : cutR (clockT x b) = (offTx x, b) := by
  have hT : clockT x b = offTx x ++ (if b = 1 then [115] else if b = 2 then [117] else []) := rfl
  rw [hT]
  rcases (by omega : b = 0 ∨ b = 1 ∨ b = 2) with rfl | rfl | rfl
  · obtain ⟨c, hc, hd⟩ := off_last (n := x.natAbs)
    have hl : (offTx x).getLast? = some c := by rw [offTx, List.getLast?_append, hc]; rfl
    have hn : baseOf c.toNat = none := by
      unfold baseOf
      rw [if_neg (by omega), if_neg (by omega), if_neg (by omega)]
    show cutR (offTx x ++ []) = _
    rw [List.append_nil, cutR, hl]
    simp only [Option.bind_some, hn]
  · show cutR (offTx x ++ [115]) = _
    rw [cutR]
    simp [baseOf]
  · show cutR (offTx x ++ [117]) = _
    rw [cutR]
    simp [baseOf]
theorem clock_back {x b : Int} (h : clockOk x b = true) : clockR (clockT x b) = ((x, b), 0) := by
  simp only [clockOk, Bool.and_eq_true, decide_eq_true_eq] at h
  rw [clockR, cut_off h.2, off_back h.1]; rfl
theorem cut_base {l : List UInt8} : 0 ≤ (cutR l).2 ∧ (cutR l).2 ≤ 2 := by
  unfold cutR
  split
  · rename_i b hb
    cases hl : l.getLast? with
    | none => simp [hl] at hb
    | some c =>
      rw [hl] at hb
      have := base_lt (show baseOf c.toNat = some b from hb)
      simp only; omega
  · simp
theorem clock_right {l : List UInt8} (h : (clockR l).2 = 0) : clockOk (clockR l).1.1 (clockR l).1.2 = true := by
  unfold clockR at h ⊢
  split at h
  · rename_i h1
    rw [if_pos h1]
    simp only [clockOk, Bool.and_eq_true, decide_eq_true_eq]
    exact ⟨off_bd h1, cut_base⟩
  · rename_i h1
    exact absurd h h1

-- words
def wStep (st : List (List UInt8) × List UInt8) (c : UInt8) : List (List UInt8) × List UInt8 := if c = 32 then (st.1 ++ [st.2], []) else (st.1, st.2 ++ [c])
def wFold (l : List UInt8) : List (List UInt8) × List UInt8 := l.foldl wStep ([], [])
def wordsR (l : List UInt8) : List (List UInt8) := (wFold l).1 ++ [(wFold l).2]
theorem fold_plain : ∀ (a : List UInt8) (d : List (List UInt8)) (cur : List UInt8), (∀ c ∈ a, c ≠ 32) → a.foldl wStep (d, cur) = (d, cur ++ a)
  | [], d, cur, _ => by simp
  | c :: a, d, cur, h => by
    rw [List.foldl_cons, show wStep (d, cur) c = (d, cur ++ [c]) from if_neg (h c (by simp)), fold_plain a d _ fun x hx => h x (List.mem_cons_of_mem _ hx)]
    simp
theorem fold_join : ∀ (fs : List (List UInt8)) (d : List (List UInt8)), fs ≠ [] → (∀ a ∈ fs, ∀ c ∈ a, c ≠ 32) → ((joinS fs).foldl wStep (d, [])).1 ++ [((joinS fs).foldl wStep (d, [])).2] = d ++ fs
  | [], d, h, _ => absurd rfl h
  | a :: r, d, _, h => by
    by_cases hr : r = []
    · subst hr
      rw [show joinS [a] = a from if_pos rfl, fold_plain a d [] (h a (by simp))]; simp
    · rw [show joinS (a :: r) = a ++ 32 :: joinS r from if_neg hr, List.foldl_append, fold_plain a d [] (h a (by simp)), List.foldl_cons, show wStep (d, [] ++ a) 32 = (d ++ [a], []) by simp [wStep], fold_join r (d ++ [a]) hr fun x hx => h x (List.mem_cons_of_mem _ hx)]
      simp
theorem words_join {fs : List (List UInt8)} (h0 : fs ≠ []) (h : ∀ a ∈ fs, ∀ c ∈ a, c ≠ 32) : wordsR (joinS fs) = fs := by
  have := fold_join fs [] h0 h
  simpa [wordsR, wFold] using this
theorem wFold_snoc (l : List UInt8) (c : UInt8) : wFold (l ++ [c]) = wStep (wFold l) c := by simp [wFold]
theorem ofB_plain {a b m : Nat} {l : List UInt8} (h : ofB a b m l = true) : ∀ c ∈ l, c ≠ 32 := by
  intro c hc he
  subst he
  simp only [ofB, Bool.and_eq_true, List.all_eq_true] at h
  have := h.2 32 hc
  rw [show kindN (UInt8.toNat 32) = 0 by decide, Nat.zero_and] at this
  exact absurd this (by decide)
theorem all_plain {l : List UInt8} (h : (l.all fun c => c != 32) = true) : ∀ c ∈ l, c ≠ 32 := by
  intro c hc
  have := List.all_eq_true.1 h c hc
  simpa using this
theorem dec_plain (n : Nat) : ∀ c ∈ Lib.decDigits n, c ≠ 32 := by
  rintro c hc rfl
  have := (dec_all n).1 32 hc
  exact absurd this (by decide)
theorem off_plain (x : Int) : ∀ c ∈ offTx x, c ≠ 32 := by
  rintro c hc rfl
  rcases List.mem_append.1 hc with hc | hc
  · split at hc <;> simp at hc
  · have := off_bytes 32 hc
    exact absurd this (by decide)
theorem joinS_len : ∀ xs : List (List UInt8), (∀ x ∈ xs, x.length ≤ 30) → (joinS xs).length ≤ 31 * xs.length
  | [], _ => by simp [joinS]
  | x :: r, h => by
    have ih := joinS_len r fun y hy => h y (List.mem_cons_of_mem _ hy)
    have hx := h x (by simp)
    unfold joinS
    split
    · simp; omega
    · simp; omega
theorem dec_len4 (n : Nat) (h : n ≤ 9999) : (Lib.decDigits n).length ≤ 30 := by have := dec_len n h; omega
theorem off_len {x : Int} (h : -604799 ≤ x ∧ x ≤ 604799) : (offTx x).length ≤ 10 := by
  have := offT_len x.natAbs (by omega)
  unfold offTx
  split <;> simp <;> omega
theorem ofB_len {a b m : Nat} {l : List UInt8} (h : ofB a b m l = true) : a ≤ l.length ∧ l.length ≤ b := by
  simp only [ofB, Bool.and_eq_true, decide_eq_true_eq] at h
  exact h.1
theorem set_len {l : List UInt8} (h : setB l = true) : l.length ≤ 30 := by
  simp only [setB, Bool.and_eq_true] at h
  exact (ofB_len h.1).2
theorem rcell_drew {w : World} {p : Addr} {v : Value} (h : w.cell? p = some v) : w.drew.cell? p = some v := h
theorem rcell_alloc {w : World} {p : Addr} {v : Value} (h : w.cell? p = some v) (o : Obj) : (w.alloc o).cell? p = some v := (((Below.refl w.heap.size w).alloc (Nat.le_refl _) o).cell (block_lt_of_cell h)).trans h
theorem rbelow_alloc {w W : World} (h : Below w.heap.size w W) (o : Obj) : Below w.heap.size w (W.alloc o) := h.alloc h.size o
theorem strs_cells {w : World} {g : Nat} {t : TypeId} {cs : Array Value} (h : Blk w g t cs) (xs : List (List UInt8)) (hc : cs.toList = xs.map fun x => .string ⟨x.toArray⟩) : ∀ (j : Nat) x, xs[j]? = some x → w.cell? ⟨g, j, none⟩ = some (.string ⟨x.toArray⟩) := fun j x hj => h.cell_ (by rw [← Array.getElem?_toList, hc, List.getElem?_map, hj]; rfl)
theorem size_len (s : ByteArray) : s.size = s.data.toList.length := rfl
theorem off_cases (x : Int) : (-604799 ≤ x ∧ x ≤ 604799) ∧ offPrintR x = (offTx x, 0) ∨ ¬ (-604799 ≤ x ∧ x ≤ 604799) ∧ offPrintR x = ([], 3) := by
  by_cases h : -604799 ≤ x ∧ x ≤ 604799
  · exact .inl ⟨h, offPrint_ok x h.1 h.2⟩
  · exact .inr ⟨h, if_pos (by omega)⟩
end Go.Proofs.YtbdmieelokmhiaaGreatDoor
