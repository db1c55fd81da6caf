/-
  ruleline.year: numerals of one to four digits; what the call returns.
-/
import Derived.Test.YtbdmieelokmhiaaGreatDoorOffParse
import Derived.Shelf.Strconv.ErrVarAll
import Derived.Shelf.Strconv.AtoiAll
set_option linter.unusedVariables false
namespace Go.Proofs.YtbdmieelokmhiaaGreatDoor
open Go.RowKit

theorem valD_snoc (l : List UInt8) (c : UInt8) : valD (l ++ [c]) = valD l * 10 + (c.toNat - 48) := by simp [valD]
theorem valD_pos : ∀ (l : List UInt8) (a : UInt8), allD (a :: l) → a ≠ 48 → 1 ≤ valD (a :: l) := by
  intro l a hd ha
  have h1 := hd a (by simp)
  have h2 : a.toNat ≠ 48 := fun h => ha (UInt8.toNat_inj.1 h)
  have mono : ∀ (l : List UInt8) (acc : Nat), acc ≤ l.foldl (fun a c => a * 10 + (c.toNat - 48)) acc := by
    intro l
    induction l with
    | nil => intro acc; exact Nat.le_refl _
    | cons b l ih => intro acc; exact Nat.le_trans (show acc ≤ acc * 10 + (b.toNat - 48) by omega) (ih _)
  have := mono l (0 * 10 + (a.toNat - 48))
  simp only [valD, List.foldl_cons]
  omega
theorem dec_snoc (m d : Nat) (hm : 1 ≤ m) (hd : d < 10) : Lib.decDigits (m * 10 + d) = Lib.decDigits m ++ [UInt8.ofNat (48 + d)] := by
  rw [Lib.decDigits, dif_neg (by omega), show (m * 10 + d) / 10 = m by omega, show (m * 10 + d) % 10 = d by omega]
theorem dec_val : ∀ (n : Nat) (l : List UInt8), l.length = n → allD l → l ≠ [] → l.head? ≠ some 48 → Lib.decDigits (valD l) = l := by
  intro n
  induction n with
  | zero => intro l hl _ h0; exact absurd (List.length_eq_zero_iff.1 hl) h0
  | succ n ih =>
    intro l hl hd h0 hh
    rcases List.eq_nil_or_concat l with rfl | ⟨r, c, rfl⟩
    · exact absurd rfl h0
    · have hc := hd c (by simp)
      rw [List.concat_eq_append, valD_snoc]
      have hcb : UInt8.ofNat (48 + (c.toNat - 48)) = c := by rw [show 48 + (c.toNat - 48) = c.toNat by omega]; simp
      match r, hl, hd, hh with
      | [], _, _, _ => rw [show valD [] * 10 + (c.toNat - 48) = c.toNat - 48 by simp [valD], Lib.decDigits_one (by omega), hcb]; rfl
      | a :: r, hl, hd, hh =>
        have hd' : allD (a :: r) := fun x hx => hd x (by simp at hx ⊢; exact hx.elim Or.inl (fun h => Or.inr (Or.inl h)))
        have ha : a ≠ 48 := fun e => hh (by simp [e])
        rw [dec_snoc _ _ (valD_pos r a hd' ha) (by omega), ih (a :: r) (by simpa using hl) hd' (by simp) (by simp [ha]), hcb]
theorem dec_all : ∀ n : Nat, allD (Lib.decDigits n) ∧ valD (Lib.decDigits n) = n ∧ Lib.decDigits n ≠ [] ∧ (n ≠ 0 → (Lib.decDigits n).head? ≠ some 48) := by
  intro n
  induction n using Nat.strongRecOn with
  | _ n ih =>
    by_cases h : n < 10
    · rw [Lib.decDigits_one h]
      have h2 : (UInt8.ofNat (48 + n)).toNat = 48 + n := by rw [UInt8.toNat_ofNat']; omega
      refine ⟨fun a ha => ?_, ?_, by simp, fun h0 e => ?_⟩
      · rw [List.mem_singleton.1 ha, h2]; omega
      · simp only [valD, List.foldl_cons, List.foldl_nil, h2]; omega
      · have e : some (UInt8.ofNat (48 + n)) = some 48 := e
        have := congrArg UInt8.toNat (Option.some.inj e)
        rw [h2] at this
        have h3 : (48 : UInt8).toNat = 48 := rfl
        omega
    · obtain ⟨i1, i2, i3, i4⟩ := ih (n / 10) (by omega)
      have h2 : (UInt8.ofNat (48 + n % 10)).toNat = 48 + n % 10 := by rw [UInt8.toNat_ofNat']; omega
      rw [Lib.decDigits, dif_neg h]
      refine ⟨fun a ha => ?_, ?_, by simp, fun _ => ?_⟩
      · rcases List.mem_append.1 ha with ha | ha
        · exact i1 a ha
        · rw [List.mem_singleton.1 ha, h2]; omega
      · rw [valD_snoc, i2, h2]; omega
      · rw [List.head?_append]
        have := i4 (by omega)
        cases hl : Lib.decDigits (n / 10) with
        | nil => exact absurd hl i3
        | cons a r => rw [hl] at this; simpa using this
theorem dec_len : ∀ n : Nat, n ≤ 9999 → (Lib.decDigits n).length ≤ 4 := by
  intro n h
  rw [Lib.decDigits]; split
  · simp
  · rw [Lib.decDigits]; split
    · simp
    · rw [Lib.decDigits]; split
      · simp
      · rw [Lib.decDigits_one (by omega)]; simp

def isYear (l : List UInt8) : Prop := 1 ≤ l.length ∧ l.length ≤ 4 ∧ l.head? ≠ some 48 ∧ allD l
instance (l : List UInt8) : Decidable (allD l) := inferInstanceAs (Decidable (∀ a ∈ l, 48 ≤ a.toNat ∧ a.toNat ≤ 57))
instance (l : List UInt8) : Decidable (isYear l) := inferInstanceAs (Decidable (1 ≤ l.length ∧ l.length ≤ 4 ∧ l.head? ≠ some 48 ∧ allD l))
/-- the year of a string, and the error -/
def yearR (l : List UInt8) : Int × Int := if isYear l then (if 1850 ≤ valD l ∧ valD l ≤ 2149 then ((valD l : Int), 0) else (0, 3)) else (0, 5)
theorem isYear_dec (n : Nat) (h1 : 1 ≤ n) (h2 : n ≤ 9999) : isYear (Lib.decDigits n) := by
  obtain ⟨i1, i2, i3, i4⟩ := dec_all n
  refine ⟨?_, dec_len n h2, i4 (by omega), i1⟩
  rcases Nat.eq_zero_or_pos (Lib.decDigits n).length with h | h
  · exact absurd (List.length_eq_zero_iff.1 h) i3
  · exact h
theorem uint10_ok : ∀ (l : List UInt8) (acc : Nat), allD l → (acc + 1) * 10 ^ l.length ≤ 1000000 → Lib.parseUint10 acc l = .ok (l.foldl (fun a c => a * 10 + (c.toNat - 48)) acc)
  | [], acc, _, _ => rfl
  | a :: l, acc, hd, hb => by
    have ha := hd a (by simp)
    have h1 : (acc * 10 + (a.toNat - 48) + 1) * 10 ^ l.length ≤ 1000000 := by
      refine Nat.le_trans ?_ hb
      rw [List.length_cons, Nat.pow_succ, ← Nat.mul_assoc, Nat.mul_right_comm]
      exact Nat.mul_le_mul_right _ (by omega)
    have h2 : acc * 10 + (a.toNat - 48) + 1 ≤ 1000000 := Nat.le_trans (Nat.le_mul_of_pos_right _ (Nat.pow_pos (by decide))) h1
    rw [Lib.parseUint10, if_pos ha, if_neg (by omega), if_neg (by omega), List.foldl_cons]
    exact uint10_ok l _ (fun x hx => hd x (by simp [hx])) h1
theorem year_ok {l : List UInt8} (h : isYear l) : Lib.atoiAll l = .ok (valD l : Int) ∧ 1 ≤ valD l ∧ valD l ≤ 9999 ∧ Lib.itoa (valD l : Int) = l := by
  obtain ⟨h1, h2, h3, h4⟩ := h
  have hp : 10 ^ l.length ≤ 10000 := Nat.le_trans (Nat.pow_le_pow_right (by decide) h2) (by decide)
  have hv := valD_lt l h4
  have h0 : l ≠ [] := fun e => by rw [e] at h1; simp at h1
  have hU : Lib.parseMag l = .ok (valD l) := by
    rw [Lib.parseMag, if_neg h0]
    exact uint10_ok l 0 h4 (by omega)
  refine ⟨?_, ?_, by omega, by rw [Lib.itoa_nonneg]; exact dec_val _ l rfl h4 h0 h3⟩
  · match l, h0, h4, hU, hv with
    | a :: r, h0, h4, hU, hv =>
      have ha := h4 a (by simp)
      simp only [Lib.atoiAll]
      rw [if_neg (by omega), hU]
      simp only
      rw [if_neg (by omega), if_neg (by omega), if_neg (by omega)]
  · match l, h0, h3, h4 with
    | a :: r, _, h3, h4 => exact valD_pos r a h4 (fun e => h3 (by simp [e]))

/-- the variable of the other sentinel -/
def ErrRan (w : World) : Prop := ∃ tp p, w.var? Tryz.prog "strconv.ErrRange" = some #[.iface tp p]
theorem gErrRan : Tryz.prog.globalNamed "strconv.ErrRange" = some 11 := by kernel_rfl
theorem ErrRan.below {w w' : World} (h : ErrRan w) (hb : Below w.heap.size w w') : ErrRan w' := by
  obtain ⟨tp, p, h⟩ := h
  exact ⟨tp, p, Joins.var_stays gErrRan h hb (Nat.le_refl _)⟩
theorem atoi_ok (s : ByteArray) (w : World) (hs : s.size ≤ 1048576) (v : Int) (h : Lib.atoiAll s.data.toList = .ok v) :
    Calls Tryz.prog 94 #[.string s] w fun e w' => e = .returned (.tuple #[.int .i64 v, .nilIface]) ∧ Below w.heap.size w w' := by
  refine (Any.strconv_Atoi_ok Tryz.laysC172 s (by omega) v h w).mono ?_
  rintro e w' ⟨h1, h2⟩
  refine ⟨h1, ?_⟩
  rcases h2 with rfl | ⟨t, rfl⟩
  · exact Below.refl _ _
  · exact Lib.bytesWorld_below _ _ _
theorem atoi_err (s : ByteArray) (w : World) (hs : s.size ≤ 1048576) (hE : ErrSyn w) (hR : ErrRan w) (h : ∀ v, Lib.atoiAll s.data.toList ≠ .ok v) :
    Calls Tryz.prog 94 #[.string s] w fun e w' => (∃ n t p, e = .returned (.tuple #[.int .i64 n, .iface t p])) ∧ Below w.heap.size w w' := by
  rcases hA : Lib.atoiAll s.data.toList with v | _ | _
  · exact absurd hA (h v)
  · obtain ⟨tp, p, hv⟩ := hE
    refine (Any.strconv_Atoi_syntax_var Tryz.laysC172 s (by omega) hA tp p w hv).mono ?_
    rintro e w' ⟨N, h1, _, _, h2⟩
    exact ⟨⟨_, _, _, h1⟩, h2⟩
  · obtain ⟨tp, p, hv⟩ := hR
    refine (Any.strconv_Atoi_range_var Tryz.laysC172 s (by omega) hA tp p w hv).mono ?_
    rintro e w' ⟨N, h1, _, _, h2⟩
    exact ⟨⟨_, _, _, h1⟩, h2⟩

def namedB (y : Int) : Bool := decide (1850 ≤ y ∧ y ≤ 2149)
end Go.Proofs.YtbdmieelokmhiaaGreatDoor
