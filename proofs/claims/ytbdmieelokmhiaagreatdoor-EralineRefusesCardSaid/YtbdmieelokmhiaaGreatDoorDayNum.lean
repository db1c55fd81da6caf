/-
  word.short, word.WeekText, dayspec.number.
-/
import Derived.Test.YtbdmieelokmhiaaGreatDoorStrFold
import Derived.Test.YtbdmieelokmhiaaGreatDoorWordWeek
import Derived.Test.YtbdmieelokmhiaaGreatDoorDayTabs
set_option linter.unusedVariables false
namespace Go.Proofs.YtbdmieelokmhiaaGreatDoor
open Go.RowKit

/-- the number of a day of at most two digits: its value and the error -/
def numR (l : List UInt8) : Int × Int :=
  match l with
  | [a] => if 49 ≤ a.toNat ∧ a.toNat ≤ 57 then ((a.toNat : Int) - 48, 0) else (0, 5)
  | [a, b] => if 49 ≤ a.toNat ∧ a.toNat ≤ 57 ∧ 48 ≤ b.toNat ∧ b.toNat ≤ 57 then (if 10 * (a.toNat - 48) + (b.toNat - 48) ≤ 31 then (10 * ((a.toNat : Int) - 48) + ((b.toNat : Int) - 48), 0) else (0, 3)) else (0, 5)
  | _ => (0, 5)

def digs : List UInt8 := [48, 49, 50, 51, 52, 53, 54, 55, 56, 57]

theorem trim_any (s : ByteArray) (w : World) (hs : s.size < 4294967281) :
    Calls Tryz.prog 144 #[.string s, .string ⟨#[48, 49, 50, 51, 52, 53, 54, 55, 56, 57]⟩] w fun e w' => e = .returned (.string ⟨(Lib.trimS s.data.toList digs).toArray⟩) ∧ Below w.heap.size w w' :=
  Any.strings_Trim_laid Tryz.lays160 (by kernel_rfl) s ⟨#[48, 49, 50, 51, 52, 53, 54, 55, 56, 57]⟩ w (by omega) (by decide) (ascii_of_all (by decide))

set_option maxRecDepth 100000 in
set_option maxHeartbeats 1000000 in
theorem number_out (s : ByteArray) (w : World) (hs : s.size < 1 ∨ 2 < s.size) :
    Calls Tryz.prog 102 #[.string s] w fun e w' => e = .returned (.tuple #[.int .i64 0, .int .i64 5]) ∧ w = w' := by
  rcases hs with hs | hs
  all_goals
    go_enter Tryz.func102, Tryz.ntmps102
    go_wp2_with fail
    go_ret2
    exact ⟨rfl, rfl⟩

theorem dig_iff (a : UInt8) : digs.contains a = decide (48 ≤ a.toNat ∧ a.toNat ≤ 57) := by
  have h : ∀ n : Fin 256, digs.contains (UInt8.ofNat n.val) = decide (48 ≤ n.val ∧ n.val ≤ 57) := by decide +kernel
  have := h ⟨a.toNat, a.toNat_lt⟩
  simpa using this

theorem drop_cons (a : UInt8) (l : List UInt8) : List.dropWhile (digs.contains ·) (a :: l) = if 48 ≤ a.toNat ∧ a.toNat ≤ 57 then List.dropWhile (digs.contains ·) l else a :: l := by
  by_cases k : 48 ≤ a.toNat ∧ a.toNat ≤ 57
  · rw [if_pos k, List.dropWhile_cons, if_pos (by rw [dig_iff]; exact decide_eq_true k)]
  · rw [if_neg k, List.dropWhile_cons, if_neg (by rw [dig_iff, decide_eq_false k]; decide)]

theorem trim_one (a : UInt8) : Lib.trimS [a] digs = if 48 ≤ a.toNat ∧ a.toNat ≤ 57 then [] else [a] := by
  show List.dropWhile (digs.contains ·) (List.dropWhile (digs.contains ·) [a]).reverse = _
  rw [drop_cons]
  by_cases k : 48 ≤ a.toNat ∧ a.toNat ≤ 57
  · rw [if_pos k, if_pos k]; rfl
  · rw [if_neg k, if_neg k]
    show List.dropWhile (digs.contains ·) [a] = [a]
    rw [drop_cons, if_neg k]

set_option maxRecDepth 100000 in
set_option maxHeartbeats 1000000 in
theorem number_one (a : UInt8) (w : World) :
    Calls Tryz.prog 102 #[.string ⟨#[a]⟩] w fun e w' => e = .returned (.tuple #[.int .i64 (numR [a]).1, .int .i64 (numR [a]).2]) ∧ Below w.heap.size w w' := by
  have g0 : ∀ h, ((⟨#[a]⟩ : ByteArray)[0]'h).toNat = a.toNat := fun _ => rfl
  by_cases h0 : a.toNat = 48
  · have hb : ((a.toNat : Int) == 48) = true := beq_iff_eq.2 (by omega)
    have hN := Lib.hid (show numR [a] = (0, 5) by simp only [numR]; rw [if_neg (by omega)])
    go_enter Tryz.func102, Tryz.ntmps102
    go_wp2_with fail
    go_ret2
    exact ⟨by rw [hN.out]; rfl, Below.refl _ _⟩
  · have hb : ((a.toNat : Int) == 48) = false := beq_eq_false_iff_ne.2 (by omega)
    have hT := trim_any ⟨#[a]⟩ w (by show 1 < _; decide)
    rw [show (⟨#[a]⟩ : ByteArray).data.toList = [a] from rfl, trim_one] at hT
    by_cases k : 48 ≤ a.toNat ∧ a.toNat ≤ 57
    · rw [if_pos k] at hT
      have hN := Lib.hid (show numR [a] = ((a.toNat : Int) - 48, 0) by simp only [numR]; rw [if_pos (by omega)])
      have hw : IntKind.u8.wrap ((a.toNat : Int) - 48) = (a.toNat : Int) - 48 := by rw [IntKind.wrap_u8]; omega
      go_enter Tryz.func102, Tryz.ntmps102
      go_wp2_with fail
      refine hT.mono ?_
      rintro e w2 ⟨rfl, hb2⟩
      go_wp2_with fail
      go_ret2
      exact ⟨by rw [hN.out]; rfl, hb2⟩
    · rw [if_neg k] at hT
      have hN := Lib.hid (show numR [a] = (0, 5) by simp only [numR]; rw [if_neg (by omega)])
      go_enter Tryz.func102, Tryz.ntmps102
      go_wp2_with fail
      refine hT.mono ?_
      rintro e w2 ⟨rfl, hb2⟩
      go_wp2_with fail
      go_ret2
      exact ⟨by rw [hN.out]; rfl, hb2⟩

theorem trim_two (a b : UInt8) : (48 ≤ a.toNat ∧ a.toNat ≤ 57 ∧ 48 ≤ b.toNat ∧ b.toNat ≤ 57 → Lib.trimS [a, b] digs = []) ∧ (¬ (48 ≤ a.toNat ∧ a.toNat ≤ 57 ∧ 48 ≤ b.toNat ∧ b.toNat ≤ 57) → ∃ x l, Lib.trimS [a, b] digs = x :: l) := by
  have e : Lib.trimS [a, b] digs = List.dropWhile (digs.contains ·) (List.dropWhile (digs.contains ·) [b, a]).reverse := rfl
  rw [e]
  by_cases kb : 48 ≤ b.toNat ∧ b.toNat ≤ 57
  · rw [drop_cons, if_pos kb, drop_cons]
    by_cases ka : 48 ≤ a.toNat ∧ a.toNat ≤ 57
    · rw [if_pos ka]; exact ⟨fun _ => rfl, fun h => absurd ⟨ka.1, ka.2, kb.1, kb.2⟩ h⟩
    · rw [if_neg ka]
      refine ⟨fun h => absurd ⟨h.1, h.2.1⟩ ka, fun _ => ⟨a, [], ?_⟩⟩
      show List.dropWhile (digs.contains ·) [a] = [a]
      rw [drop_cons, if_neg ka]
  · rw [drop_cons, if_neg kb]
    refine ⟨fun h => absurd ⟨h.2.2.1, h.2.2.2⟩ kb, fun _ => ?_⟩
    show ∃ x l, List.dropWhile (digs.contains ·) [a, b] = x :: l
    rw [drop_cons]
    by_cases ka : 48 ≤ a.toNat ∧ a.toNat ≤ 57
    · rw [if_pos ka, drop_cons, if_neg kb]; exact ⟨_, _, rfl⟩
    · rw [if_neg ka]; exact ⟨_, _, rfl⟩

set_option maxRecDepth 100000 in
set_option maxHeartbeats 1000000 in
theorem number_two (a b : UInt8) (w : World) :
    Calls Tryz.prog 102 #[.string ⟨#[a, b]⟩] w fun e w' => e = .returned (.tuple #[.int .i64 (numR [a, b]).1, .int .i64 (numR [a, b]).2]) ∧ Below w.heap.size w w' := by
  have g0 : ∀ h, ((⟨#[a, b]⟩ : ByteArray)[0]'h).toNat = a.toNat := fun _ => rfl
  have g1 : ∀ h, ((⟨#[a, b]⟩ : ByteArray)[1]'h).toNat = b.toNat := fun _ => rfl
  by_cases h0 : a.toNat = 48
  · have hb : ((a.toNat : Int) == 48) = true := beq_iff_eq.2 (by omega)
    have hN := Lib.hid (show numR [a, b] = (0, 5) by simp only [numR]; rw [if_neg (by omega)])
    go_enter Tryz.func102, Tryz.ntmps102
    go_wp2_with fail
    go_ret2
    exact ⟨by rw [hN.out]; rfl, Below.refl _ _⟩
  · have hb : ((a.toNat : Int) == 48) = false := beq_eq_false_iff_ne.2 (by omega)
    have hT := trim_any ⟨#[a, b]⟩ w (by show 2 < _; decide)
    rw [show (⟨#[a, b]⟩ : ByteArray).data.toList = [a, b] from rfl] at hT
    by_cases k : 48 ≤ a.toNat ∧ a.toNat ≤ 57 ∧ 48 ≤ b.toNat ∧ b.toNat ≤ 57
    · rw [(trim_two a b).1 k] at hT
      have hw : IntKind.u8.wrap ((a.toNat : Int) - 48) = (a.toNat : Int) - 48 := by rw [IntKind.wrap_u8]; omega
      have hv : IntKind.u8.wrap ((b.toNat : Int) - 48) = (b.toNat : Int) - 48 := by rw [IntKind.wrap_u8]; omega
      by_cases h31 : 10 * (a.toNat - 48) + (b.toNat - 48) ≤ 31
      · have hN := Lib.hid (show numR [a, b] = (10 * ((a.toNat : Int) - 48) + ((b.toNat : Int) - 48), 0) by simp only [numR]; rw [if_pos (by omega), if_pos h31])
        have h31i : ¬ (31 < 10 * ((a.toNat : Int) - 48) + ((b.toNat : Int) - 48)) := by omega
        go_enter Tryz.func102, Tryz.ntmps102
        go_wp2_with fail
        refine hT.mono ?_
        rintro e w2 ⟨rfl, hb2⟩
        go_wp2_with fail
        go_ret2
        exact ⟨by rw [hN.out]; rfl, hb2⟩
      · have hN := Lib.hid (show numR [a, b] = (0, 3) by simp only [numR]; rw [if_pos (by omega), if_neg h31])
        have h31i : 31 < 10 * ((a.toNat : Int) - 48) + ((b.toNat : Int) - 48) := by omega
        go_enter Tryz.func102, Tryz.ntmps102
        go_wp2_with fail
        refine hT.mono ?_
        rintro e w2 ⟨rfl, hb2⟩
        go_wp2_with fail
        go_ret2
        exact ⟨by rw [hN.out]; rfl, hb2⟩
    · obtain ⟨x, l, hxl⟩ := (trim_two a b).2 k
      rw [hxl] at hT
      have hne : (⟨(x :: l).toArray⟩ : ByteArray).toList.isEmpty = false := by rw [Lib.toList_data]; rfl
      have hN := Lib.hid (show numR [a, b] = (0, 5) by simp only [numR]; rw [if_neg (by omega)])
      clear hxl
      go_enter Tryz.func102, Tryz.ntmps102
      go_wp2_with fail
      refine hT.mono ?_
      rintro e w2 ⟨rfl, hb2⟩
      go_wp2_with fail
      go_ret2
      exact ⟨by rw [hN.out]; rfl, hb2⟩
theorem number_any (s : ByteArray) (w : World) :
    Calls Tryz.prog 102 #[.string s] w fun e w' => e = .returned (.tuple #[.int .i64 (numR s.data.toList).1, .int .i64 (numR s.data.toList).2]) ∧ Below w.heap.size w w' := by
  obtain ⟨⟨l⟩⟩ := s
  match l with
  | [] => exact (number_out _ w (.inl (by decide))).mono fun e w' ⟨h1, h2⟩ => ⟨h1, h2 ▸ Below.refl _ _⟩
  | [a] => exact number_one a w
  | [a, b] => exact number_two a b w
  | a :: b :: c :: l => exact (number_out _ w (.inr (by show 2 < (a :: b :: c :: l).length; simp))).mono fun e w' ⟨h1, h2⟩ => ⟨h1, h2 ▸ Below.refl _ _⟩
end Go.Proofs.YtbdmieelokmhiaaGreatDoor
