/-
  offset.Parse: the digits that its closure takes.
-/
import Derived.Test.YtbdmieelokmhiaaGreatDoorOffPrint
import Derived.Shelf.Strconv.ErrVarParseInt
import Derived.Lib.AtoiErrMem
set_option linter.unusedVariables false
namespace Go.Proofs.YtbdmieelokmhiaaGreatDoor
open Go.RowKit

/-- how many digits stand in front, at most n -/
def digLen : Nat → List UInt8 → Nat
  | 0, _ => 0
  | _, [] => 0
  | n + 1, a :: l => if 48 ≤ a.toNat ∧ a.toNat ≤ 57 then digLen n l + 1 else 0
theorem digLen_le : ∀ (n : Nat) (l : List UInt8), digLen n l ≤ n ∧ digLen n l ≤ l.length
  | 0, _ => by simp [digLen]
  | _ + 1, [] => by simp [digLen]
  | n + 1, a :: l => by
    have := digLen_le n l
    simp only [digLen, List.length_cons]; split <;> omega
theorem digLen_in : ∀ (n : Nat) (l : List UInt8) (k : Nat), k < digLen n l → ∃ a, l[k]? = some a ∧ 48 ≤ a.toNat ∧ a.toNat ≤ 57
  | 0, _, k, h => by simp [digLen] at h
  | _ + 1, [], k, h => by simp [digLen] at h
  | n + 1, a :: l, k, h => by
    simp only [digLen] at h
    split at h
    · cases k with
      | zero => exact ⟨a, rfl, by assumption⟩
      | succ k => exact digLen_in n l k (by omega)
    · omega
theorem digLen_at : ∀ (n : Nat) (l : List UInt8), digLen n l = n ∨ digLen n l = l.length ∨ ∃ a, l[digLen n l]? = some a ∧ ¬ (48 ≤ a.toNat ∧ a.toNat ≤ 57)
  | 0, _ => by simp [digLen]
  | _ + 1, [] => by simp [digLen]
  | n + 1, a :: l => by
    simp only [digLen]
    split
    · rcases digLen_at n l with h | h | ⟨b, h1, h2⟩
      · exact .inl (by omega)
      · exact .inr (.inl (by simp [h]))
      · exact .inr (.inr ⟨b, by simpa using h1, h2⟩)
    · exact .inr (.inr ⟨a, rfl, by assumption⟩)

theorem get_of {s : ByteArray} {k : Nat} {a : UInt8} (h : s.data.toList[k]? = some a) : k < s.size ∧ ∀ hk, (s[k]'hk) = a := by
  have hk := (List.getElem?_eq_some_iff.1 h).1
  refine ⟨by simpa using hk, fun hk' => ?_⟩
  have := (List.getElem?_eq_some_iff.1 h).2
  rw [← this]; rfl

set_option maxRecDepth 100000 in
set_option maxHeartbeats 1000000 in
theorem digits_any (n : Nat) (s : ByteArray) (g : Nat) (w : World) (hn : n ≤ 3) (hs : s.size ≤ 1048576) (hc : w.cell? ⟨g, 0, none⟩ = some (.string s)) (hf : w.frozen? ⟨g, 0, none⟩ = false) :
    Calls Tryz.prog 89 #[.int .i64 (n : Int), .pointer (some ⟨g, 0, none⟩)] w fun e w' =>
      e = .returned (.string (s.extract 0 (digLen n s.data.toList))) ∧ w.setCell ⟨g, 0, none⟩ (.string (s.extract (digLen n s.data.toList) s.size)) = w' := by
  have HL := digLen_le n s.data.toList
  have hsz : s.data.toList.length = s.size := by simp
  rw [hsz] at HL
  have HI := Lib.hid (digLen_in n s.data.toList)
  have HA := Lib.hid (digLen_at n s.data.toList)
  generalize digLen n s.data.toList = K at *
  go_enter Tryz.func89, Tryz.ntmps89
  go_wp2_with fail
  go_loop [4] (fun i => ∃ k : Nat, k ≤ K ∧ i = .int .i64 (k : Int)) (fun i => K - (intOf i).toNat)
  case atStart => exact ⟨0, Nat.zero_le _, rfl⟩
  case round =>
    obtain ⟨k, hk, rfl⟩ := hrel
    by_cases hlt : k < K
    · obtain ⟨a, h1, h2, h3⟩ := HI.out k hlt
      obtain ⟨h4, h5⟩ := get_of h1
      have g0 : ∀ hk, (s[k]'hk).toNat = a.toNat := fun hk => by rw [h5]
      have hk1 : (k : Int) < (s.size : Int) := by omega
      have hk2 : (k : Int) < (n : Int) := by omega
      clear h1 h5
      go_wp2_with fail
      go_round
      case rel => exact ⟨k + 1, by omega, by go_num⟩
      case measure => simp [intOf]; omega
    · obtain rfl : k = K := by omega
      by_cases hk1 : k = s.size
      · have hd : ¬ ((k : Int) < (s.size : Int)) := by omega
        go_wp2_with fail
        go_ret
        exact ⟨rfl, rfl⟩
      · have hd : (k : Int) < (s.size : Int) := by omega
        by_cases hk2 : k = n
        · have hd2 : ¬ ((k : Int) < (n : Int)) := by omega
          go_wp2_with fail
          go_ret
          exact ⟨rfl, rfl⟩
        · have hd2 : (k : Int) < (n : Int) := by omega
          rcases HA.out with h | h | ⟨a, h1, h2⟩
          · exact absurd h hk2
          · exact absurd (h.trans hsz) hk1
          · obtain ⟨h4, h5⟩ := get_of h1
            have g0 : ∀ hk, (s[k]'hk).toNat = a.toNat := fun hk => by rw [h5]
            clear h1 h5
            by_cases h48 : 48 ≤ a.toNat
            · have h57 : ¬ a.toNat ≤ 57 := fun h => h2 ⟨h48, h⟩
              go_wp2_with fail
              go_ret
              exact ⟨rfl, rfl⟩
            · go_wp2_with fail
              go_ret
              exact ⟨rfl, rfl⟩

/-- the value of digits -/
def valD (l : List UInt8) : Nat := l.foldl (fun a c => a * 10 + (c.toNat - 48)) 0
def allD (l : List UInt8) : Prop := ∀ a ∈ l, 48 ≤ a.toNat ∧ a.toNat ≤ 57
theorem uintM_ok (M : Nat) (hM : 1000000 ≤ M) : ∀ (l : List UInt8) (acc : Nat), allD l → (acc + 1) * 10 ^ l.length ≤ 1000000 → Lib.parseUintM M acc l = .ok (l.foldl (fun a c => a * 10 + (c.toNat - 48)) acc)
  | [], acc, _, _ => rfl
  | a :: l, acc, hd, hb => by
    have ha := hd a (by simp)
    have h1 : (acc * 10 + (a.toNat - 48) + 1) * 10 ^ l.length ≤ 1000000 := by
      refine Nat.le_trans ?_ hb
      rw [List.length_cons, Nat.pow_succ, ← Nat.mul_assoc, Nat.mul_right_comm]
      exact Nat.mul_le_mul_right _ (by omega)
    have h2 : acc * 10 + (a.toNat - 48) + 1 ≤ 1000000 := Nat.le_trans (Nat.le_mul_of_pos_right _ (Nat.pow_pos (by decide))) h1
    rw [Lib.parseUintM, if_pos ha, if_neg (by omega), if_neg (by omega), List.foldl_cons]
    exact uintM_ok M hM l _ (fun x hx => hd x (by simp [hx])) h1
theorem fold_lt : ∀ (l : List UInt8) (acc : Nat), allD l → l.foldl (fun a c => a * 10 + (c.toNat - 48)) acc < (acc + 1) * 10 ^ l.length
  | [], acc, _ => by simp
  | a :: l, acc, hd => by
    have ha := hd a (by simp)
    refine Nat.lt_of_lt_of_le (fold_lt l _ (fun x hx => hd x (by simp [hx]))) ?_
    rw [List.length_cons, Nat.pow_succ, ← Nat.mul_assoc, Nat.mul_right_comm]
    exact Nat.mul_le_mul_right _ (by show acc * 10 + (a.toNat - 48) + 1 ≤ _; omega)
theorem valD_lt (l : List UInt8) (hd : allD l) : valD l < 10 ^ l.length := by
  have := fold_lt l 0 hd
  simpa [valD] using this
theorem pint_ok (l : List UInt8) (h0 : l ≠ []) (h3 : l.length ≤ 3) (hd : allD l) : Lib.parseIntB 64 l = .ok (valD l : Int) := by
  have hp : 10 ^ l.length ≤ 1000 := Nat.le_trans (Nat.pow_le_pow_right (by decide) h3) (by decide)
  have hv := valD_lt l hd
  have hU : Lib.parseUintB 64 l = .ok (valD l) := by
    rw [Lib.parseUintB, if_neg h0]
    exact uintM_ok _ (by decide) l 0 hd (by omega)
  match l with
  | [] => exact absurd rfl h0
  | a :: r =>
    have ha := hd a (by simp)
    simp only [Lib.parseIntB]
    rw [if_neg (by omega), hU]
    simp only
    rw [if_neg (by omega), if_neg (by omega), if_neg (by omega)]

/-- the variable of a sentinel -/
def ErrSyn (w : World) : Prop := ∃ tp p, w.var? Tryz.prog "strconv.ErrSyntax" = some #[.iface tp p]
theorem gErrSyn : Tryz.prog.globalNamed "strconv.ErrSyntax" = some 10 := by kernel_rfl
theorem ErrSyn.below {w w' : World} (h : ErrSyn w) (hb : Below w.heap.size w w') : ErrSyn w' := by
  obtain ⟨tp, p, h⟩ := h
  exact ⟨tp, p, Joins.var_stays gErrSyn h hb (Nat.le_refl _)⟩

theorem pint_any (s : ByteArray) (w : World) (h0 : s.data.toList ≠ []) (h3 : s.data.toList.length ≤ 3) (hd : allD s.data.toList) :
    Calls Tryz.prog 90 #[.string s, .int .i64 10, .int .i64 64] w fun e w' => e = .returned (.tuple #[.int .i64 (valD s.data.toList : Int), .nilIface]) ∧ Below w.heap.size w w' := by
  refine (Any.strconv_ParseInt_10_at64_ok Tryz.laysC174 s (by simp at h3; omega) _ (pint_ok _ h0 h3 hd) w).mono ?_
  rintro e w' ⟨h1, h2⟩
  refine ⟨h1, ?_⟩
  rcases h2 with rfl | ⟨t, rfl⟩
  · exact Below.refl _ _
  · exact Lib.bytesWorld_below _ _ _
theorem pint_none (w : World) (hE : ErrSyn w) :
    Calls Tryz.prog 90 #[.string ⟨#[]⟩, .int .i64 10, .int .i64 64] w fun e w' => (∃ t p, e = .returned (.tuple #[.int .i64 0, .iface t p])) ∧ Below w.heap.size w w' := by
  obtain ⟨tp, p, hv⟩ := hE
  refine (Any.strconv_ParseInt_10_at64_syntax_var Tryz.laysC174 ⟨#[]⟩ (by decide) rfl tp p w hv).mono ?_
  rintro e w' ⟨N, h1, _, _, h2⟩
  exact ⟨⟨_, _, h1⟩, h2⟩
end Go.Proofs.YtbdmieelokmhiaaGreatDoor
