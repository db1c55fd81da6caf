/-
  The references of layer 7: letter, digit, letters, Set, Letter return what the program's functions return.
  The references of layer 8 again: months, years, Month, To, MonthText.
  The reference of layer 10, small functions: digits, named, Year, to return what the program's functions return.
-/
import Derived.Test.YtmcgbjjcpcgcfaaGreatDoorOffAll
import Derived.Deep.QuietTactic
import Derived.BigQuiet
import Derived.Handy
import Derived.Test.YtmcgbjjcpcgcfaaGreatDoorRefNine
set_option linter.unusedVariables false
namespace Go.Proofs.YtmcgbjjcpcgcfaaGreatDoor
open Go.RowKit

def letB (c : Nat) : Bool := decide ((65 ≤ c ∧ c ≤ 90) ∨ (97 ≤ c ∧ c ≤ 122))
def digB (c : Nat) : Bool := decide (48 ≤ c ∧ c ≤ 57)
theorem letB_kind : ∀ c : Fin 256, (kindN c.val &&& 1 != 0) = letB c.val := by decide +kernel
theorem set_kind : ∀ c : Fin 256, (kindN c.val &&& 15 != 0) = (letB c.val || digB c.val || decide (c.val = 95) || decide (c.val = 45)) := by decide +kernel
theorem letB_u8 (c : UInt8) : (kindN c.toNat &&& 1 != 0) = letB c.toNat := letB_kind ⟨c.toNat, c.toNat_lt⟩
theorem set_u8 (c : UInt8) : (kindN c.toNat &&& 15 != 0) = (letB c.toNat || digB c.toNat || decide (c.toNat = 95) || decide (c.toNat = 45)) := set_kind ⟨c.toNat, c.toNat_lt⟩

set_option maxHeartbeats 400000 in
theorem r7letter_any (c : Nat) (w : World) :
    Calls Tryz.prog 114 #[.int .u8 (c : Int)] w fun e w' => e = .returned (.bool (letB c)) ∧ w' = w := by
  obtain ⟨r, hr⟩ : ∃ r, letB c = r := ⟨_, rfl⟩
  rw [hr]
  cases r with
  | true =>
    have hc := of_decide_eq_true hr
    rcases (by omega : ((65 : Int) ≤ (c : Int) ∧ (c : Int) ≤ 90) ∨ ((65 : Int) ≤ (c : Int) ∧ ¬ (c : Int) ≤ 90 ∧ (97 : Int) ≤ (c : Int) ∧ (c : Int) ≤ 122)) with ⟨h1, h2⟩ | ⟨h1, h2, h3, h4⟩
    all_goals
      clear hr hc
      go_enter Tryz.func114, Tryz.ntmps114
      go_wp2_with fail
      go_ret
      exact ⟨rfl, rfl⟩
  | false =>
    have hc := of_decide_eq_false hr
    rcases (by omega : (¬ (65 : Int) ≤ (c : Int) ∧ ¬ (97 : Int) ≤ (c : Int)) ∨ ((65 : Int) ≤ (c : Int) ∧ ¬ (c : Int) ≤ 90 ∧ ¬ (97 : Int) ≤ (c : Int)) ∨ ((65 : Int) ≤ (c : Int) ∧ ¬ (c : Int) ≤ 90 ∧ (97 : Int) ≤ (c : Int) ∧ ¬ (c : Int) ≤ 122)) with ⟨h1, h2⟩ | ⟨h1, h2, h3⟩ | ⟨h1, h2, h3, h4⟩
    all_goals
      clear hr hc
      go_enter Tryz.func114, Tryz.ntmps114
      go_wp2_with fail
      go_ret
      exact ⟨rfl, rfl⟩
set_option maxHeartbeats 400000 in
theorem r7digit_any (c : Nat) (w : World) :
    Calls Tryz.prog 115 #[.int .u8 (c : Int)] w fun e w' => e = .returned (.bool (digB c)) ∧ w' = w := by
  obtain ⟨r, hr⟩ : ∃ r, digB c = r := ⟨_, rfl⟩
  rw [hr]
  cases r with
  | true =>
    have hc := of_decide_eq_true hr
    obtain ⟨h1, h2⟩ : (48 : Int) ≤ (c : Int) ∧ (c : Int) ≤ 57 := by omega
    clear hr hc
    go_enter Tryz.func115, Tryz.ntmps115
    go_wp2_with fail
    go_ret
    exact ⟨rfl, rfl⟩
  | false =>
    have hc := of_decide_eq_false hr
    rcases (by omega : ¬ (48 : Int) ≤ (c : Int) ∨ ((48 : Int) ≤ (c : Int) ∧ ¬ (c : Int) ≤ 57)) with h1 | ⟨h1, h2⟩
    all_goals
      clear hr hc
      go_enter Tryz.func115, Tryz.ntmps115
      go_wp2_with fail
      go_ret
      exact ⟨rfl, rfl⟩

theorem ofB_no {a b m : Nat} {s : ByteArray} {k : Nat} (hk : k < s.size) (h : (kindN (s[k]'hk).toNat &&& m != 0) = false) : ofB a b m s.data.toList = false := by
  unfold ofB
  rw [Bool.and_eq_false_iff]
  refine Or.inr ?_
  rw [List.all_eq_false]
  exact ⟨s[k], by simp [ByteArray.getElem_eq_getElem_data], by rw [h]; decide⟩
theorem ofB_yes {a b m : Nat} {s : ByteArray} (h : ∀ k (hk : k < s.size), (kindN (s[k]'hk).toNat &&& m != 0) = true) : ofB a b m s.data.toList = decide (a ≤ s.size ∧ s.size ≤ b) := by
  unfold ofB
  have : (s.data.toList.all fun c => kindN c.toNat &&& m != 0) = true := by
    rw [List.all_eq_true]
    intro c hc
    obtain ⟨k, hk, he⟩ := List.mem_iff_getElem.1 hc
    have hk' : k < s.size := by simpa using hk
    have := h k hk'
    rw [← he]
    simpa [ByteArray.getElem_eq_getElem_data] using this
  rw [this, Bool.and_true]
  simp

set_option maxHeartbeats 400000 in
theorem r7letters_any (s : ByteArray) (a b : Nat) (w : World) (hs : s.size ≤ 1048576) (ha : a ≤ 100) (hb : b ≤ 100) :
    Calls Tryz.prog 116 #[.string s, .int .i64 (a : Int), .int .i64 (b : Int)] w fun e w' => e = .returned (.bool (ofB a b 1 s.data.toList)) ∧ w' = w := by
  go_enter Tryz.func116, Tryz.ntmps116
  go_wp2_with fail
  go_loop [7] (fun i => ∃ k : Nat, k ≤ s.size ∧ i = .int .i64 (k : Int) ∧ Aside (∀ j (hj : j < s.size), j < k → (kindN (s[j]'hj).toNat &&& 1 != 0) = true)) (fun i => s.size - (intOf i).toNat)
  case atStart => exact ⟨0, Nat.zero_le _, rfl, fun j _ hj => absurd hj (by omega)⟩
  case round =>
    obtain ⟨k, hk, rfl, hall⟩ := hrel
    by_cases hlt : k < s.size
    · obtain ⟨c, hc⟩ : ∃ c : Nat, c = (s[k]'hlt).toNat := ⟨_, rfl⟩
      have g0 : ∀ h, (s[k]'h).toNat = c := fun _ => hc.symm
      have HK := Lib.hid (show (kindN (s[k]'hlt).toNat &&& 1 != 0) = letB c by rw [letB_u8, hc])
      have HN := Lib.hid hall.out
      have hd : decide (k < s.size) = true := by simp [hlt]
      clear hall hc
      obtain ⟨r, hr⟩ : ∃ r, letB c = r := ⟨_, rfl⟩
      rw [hr] at HK
      have HL := Lib.hid (fun w => hr ▸ r7letter_any c w)
      clear hr
      cases r with
      | true =>
        go_wp2_with fail
        refine (HL.out _).mono ?_
        rintro e w1 ⟨rfl, rfl⟩
        go_wp2_with fail
        go_round
        case rel =>
          refine ⟨k + 1, by omega, by go_num, fun j hj hjk => ?_⟩
          by_cases h : j = k
          · subst h; exact HK.out
          · exact HN.out j hj (by omega)
        case measure => simp [intOf]; omega
      | false =>
        have HF := Lib.hid (ofB_no (a := a) (b := b) hlt HK.out)
        go_wp2_with fail
        refine (HL.out _).mono ?_
        rintro e w1 ⟨rfl, rfl⟩
        go_wp2_with fail
        go_ret
        exact ⟨by rw [HF.out]; rfl, rfl⟩
    · obtain rfl : k = s.size := by omega
      have hd : decide (s.size < s.size) = false := by simp
      have HF := Lib.hid (ofB_yes (a := a) (b := b) (m := 1) (s := s) fun j hj => hall.out j hj hj)
      clear hall hlt hk
      by_cases h1 : a ≤ s.size
      · by_cases h2 : s.size ≤ b
        · have e1 : decide (a ≤ s.size) = true := by simp [h1]
          have e2 : decide (s.size ≤ b) = true := by simp [h2]
          go_wp2_with fail
          go_ret
          exact ⟨by rw [HF.out]; simp [h1, h2], rfl⟩
        · have e1 : decide (a ≤ s.size) = true := by simp [h1]
          have e2 : decide (s.size ≤ b) = false := by simp [h2]
          go_wp2_with fail
          go_ret
          exact ⟨by rw [HF.out]; simp [h1, h2], rfl⟩
      · have e1 : decide (a ≤ s.size) = false := by simp [h1]
        go_wp2_with fail
        go_ret
        exact ⟨by rw [HF.out]; simp [h1], rfl⟩
set_option maxHeartbeats 400000 in
theorem r7Letter_any (s : ByteArray) (w : World) (hs : s.size ≤ 1048576) :
    Calls Tryz.prog 80 #[.string s] w fun e w' => e = .returned (.bool (ofB 1 4 1 s.data.toList)) ∧ w' = w := by
  have HL := Lib.hid (fun w => r7letters_any s 1 4 w hs (by decide) (by decide))
  go_enter Tryz.func80, Tryz.ntmps80
  go_wp2_with fail
  refine (HL.out _).mono ?_
  rintro e w1 ⟨rfl, rfl⟩
  go_wp2_with fail
  go_ret
  exact ⟨rfl, rfl⟩

theorem setB_first {s : ByteArray} (h : 0 < s.size) : ofB 1 1 1 (s.data.toList.take 1) = letB (s[0]'h).toNat := by
  obtain ⟨l, rfl⟩ : ∃ l : List UInt8, s = ⟨l.toArray⟩ := ⟨s.data.toList, by simp⟩
  cases l with
  | nil => exact absurd h (by decide)
  | cons c l =>
    show ofB 1 1 1 [c] = letB c.toNat
    simp only [ofB, List.length_singleton, List.all_cons, List.all_nil, Bool.and_true, letB_u8]
    simp

set_option maxRecDepth 100000 in
set_option maxHeartbeats 1000000 in
theorem r7Set_any (s : ByteArray) (w : World) (hs : s.size ≤ 1048576) :
    Calls Tryz.prog 78 #[.string s] w fun e w' => e = .returned (.bool (setB s.data.toList)) ∧ w' = w := by
  by_cases h1 : 1 ≤ s.size ∧ s.size ≤ 30
  · obtain ⟨h1, h30⟩ := h1
    have z1 : ¬ (s.size : Int) < 1 := by omega
    have z30 : ¬ 30 < (s.size : Int) := by omega
    obtain ⟨c0, hc0⟩ : ∃ c : Nat, c = (s[0]'(by omega)).toNat := ⟨_, rfl⟩
    have g00 : ∀ h, (s[0]'h).toNat = c0 := fun _ => hc0.symm
    have hS : setB s.data.toList = (ofB 1 30 15 s.data.toList && letB c0) := by rw [setB, setB_first (by omega), hc0]
    obtain ⟨r, hr⟩ : ∃ r, letB c0 = r := ⟨_, rfl⟩
    have HL := Lib.hid (fun w => hr ▸ r7letter_any c0 w)
    rw [hr] at hS
    have HS := Lib.hid hS
    have hi0 : (0 : Int) < (s.size : Int) := by omega
    clear hr hS hc0
    cases r with
    | false =>
      go_enter Tryz.func78, Tryz.ntmps78
      go_wp2_with fail
      refine (HL.out _).mono ?_
      rintro e w1 ⟨rfl, rfl⟩
      go_wp2_with fail
      go_ret
      exact ⟨by rw [HS.out]; simp, rfl⟩
    | true =>
      go_enter Tryz.func78, Tryz.ntmps78
      go_wp2_with fail
      refine (HL.out _).mono ?_
      rintro e w1 ⟨rfl, rfl⟩
      go_wp2_with fail
      clear g00 hi0
      go_loop [3] (fun i => ∃ k : Nat, k ≤ s.size ∧ i = .int .i64 (k : Int) ∧ Aside (∀ j (hj : j < s.size), j < k → (kindN (s[j]'hj).toNat &&& 15 != 0) = true)) (fun i => s.size - (intOf i).toNat)
      case atStart => exact ⟨0, Nat.zero_le _, rfl, fun j _ hj => absurd hj (by omega)⟩
      case round =>
        obtain ⟨k, hk, rfl, hall⟩ := hrel
        by_cases hlt : k < s.size
        · obtain ⟨c, hc⟩ : ∃ c : Nat, c = (s[k]'hlt).toNat := ⟨_, rfl⟩
          have g0 : ∀ h, (s[k]'h).toNat = c := fun _ => hc.symm
          have HK := Lib.hid (show (kindN (s[k]'hlt).toNat &&& 15 != 0) = (letB c || digB c || decide (c = 95) || decide (c = 45)) by rw [set_u8, hc])
          have HN := Lib.hid hall.out
          have hd : decide (k < s.size) = true := by simp [hlt]
          clear hall hc
          obtain ⟨r, hr⟩ : ∃ r, letB c = r := ⟨_, rfl⟩
          obtain ⟨q, hq⟩ : ∃ r, digB c = r := ⟨_, rfl⟩
          rw [hr, hq] at HK
          have HL := Lib.hid (fun w => hr ▸ r7letter_any c w)
          have HD := Lib.hid (fun w => hq ▸ r7digit_any c w)
          have hne1 : ((c : Int) != 95) = !decide (c = 95) := by
            by_cases h : c = 95
            · subst h; rfl
            · rw [decide_eq_false h]; show ((c : Int) != 95) = true; rw [bne_iff_ne]; omega
          have hne2 : ((c : Int) != 45) = !decide (c = 45) := by
            by_cases h : c = 45
            · subst h; rfl
            · rw [decide_eq_false h]; show ((c : Int) != 45) = true; rw [bne_iff_ne]; omega
          clear hr hq
          generalize decide (c = 95) = p1 at *
          generalize decide (c = 45) = p2 at *
          cases r <;> cases q <;> cases p1 <;> cases p2
          all_goals
            simp only [Bool.not_true, Bool.not_false] at hne1 hne2
            go_wp2_with (first | (go_at_call 114; refine (HL.out _).mono ?_; rintro e w1 ⟨rfl, rfl⟩) | (go_at_call 115; refine (HD.out _).mono ?_; rintro e w1 ⟨rfl, rfl⟩) | fail)
            first
              | (go_ret
                 exact ⟨by rw [HS.out, ofB_no hlt HK.out]; rfl, rfl⟩)
              | (go_round
                 case rel =>
                   refine ⟨k + 1, by omega, by go_num, fun j hj hjk => ?_⟩
                   by_cases h : j = k
                   · subst h; exact HK.out
                   · exact HN.out j hj (by omega)
                 case measure => simp [intOf]; omega)
        · obtain rfl : k = s.size := by omega
          have hd : decide (s.size < s.size) = false := by simp
          have HF := Lib.hid (ofB_yes (a := 1) (b := 30) (m := 15) (s := s) fun j hj => hall.out j hj hj)
          have hT : setB s.data.toList = true := by rw [HS.out, HF.out]; simp [h1, h30]
          have HT := Lib.hid hT
          clear hall hlt hk hT
          go_wp2_with fail
          go_ret
          exact ⟨by rw [HT.out]; rfl, rfl⟩
  · have hS : setB s.data.toList = false := by
      unfold setB ofB
      rw [decide_eq_false (by simpa using h1)]
      rfl
    have HS := Lib.hid hS
    clear hS
    rcases (by omega : (s.size : Int) < 1 ∨ (¬ (s.size : Int) < 1 ∧ 30 < (s.size : Int))) with h | ⟨h, h2⟩
    all_goals
      clear h1
      go_enter Tryz.func78, Tryz.ntmps78
      go_wp2_with fail
      go_ret
      exact ⟨by rw [HS.out]; rfl, rfl⟩


def monthsO : Obj := .cells #[.string ⟨#[106, 97, 110, 117, 97, 114, 121]⟩, .string ⟨#[102, 101, 98, 114, 117, 97, 114, 121]⟩, .string ⟨#[109, 97, 114, 99, 104]⟩, .string ⟨#[97, 112, 114, 105, 108]⟩, .string ⟨#[109, 97, 121]⟩, .string ⟨#[106, 117, 110, 101]⟩, .string ⟨#[106, 117, 108, 121]⟩, .string ⟨#[97, 117, 103, 117, 115, 116]⟩, .string ⟨#[115, 101, 112, 116, 101, 109, 98, 101, 114]⟩, .string ⟨#[111, 99, 116, 111, 98, 101, 114]⟩, .string ⟨#[110, 111, 118, 101, 109, 98, 101, 114]⟩, .string ⟨#[100, 101, 99, 101, 109, 98, 101, 114]⟩] 9
def yearsO : Obj := .cells #[.string ⟨#[111, 110, 108, 121]⟩, .string ⟨#[109, 97, 120, 105, 109, 117, 109]⟩] 9
set_option maxHeartbeats 400000 in
theorem rmonths_any (w : World) : Calls Tryz.prog 118 #[] w fun e w' => e = .returned (.slice (some ⟨w.heap.size, 0, none⟩) 12 12) ∧ w' = w.alloc monthsO := by
  go_enter Tryz.func118, Tryz.ntmps118
  go_wp2
  go_ret
  exact ⟨rfl, rfl⟩
theorem litrow_cell (w : World) (t : TypeId) (ls : List (List UInt8)) (j : Nat) (l : List UInt8) (hl : ls[j]? = some l) : (w.alloc (.cells (ls.map fun l => Value.string ⟨l.toArray⟩).toArray t)).cell? ⟨w.heap.size, j, none⟩ = some (.string ⟨l.toArray⟩) := by
  refine (Blk.new' w t _ rfl).cell_ ?_
  simp [hl]
theorem monthsO_cell (w : World) (j : Nat) (l : List UInt8) (hl : monthL[j]? = some l) : (w.alloc monthsO).cell? ⟨w.heap.size, j, none⟩ = some (.string ⟨l.toArray⟩) := litrow_cell w _ monthL j l hl
theorem yearsO_cell (w : World) (j : Nat) (l : List UInt8) (hl : toL[j]? = some l) : (w.alloc yearsO).cell? ⟨w.heap.size, j, none⟩ = some (.string ⟨l.toArray⟩) := litrow_cell w _ toL j l hl
def moreR (n e : Int) : Int × Int := if e = 0 then (n + 1, 0) else (0, e)
theorem more_find (ws : List (List UInt8)) (s : List UInt8) (hl : ws.length ≤ 100) : moreR (findRR ws s).1 (findRR ws s).2 = wordR ws 1 s ∧ 0 ≤ (findRR ws s).1 ∧ (findRR ws s).1 ≤ 100 := by
  have hlt : (wordF ws s).2 = true → (wordF ws s).1 < ws.length := wordF_found
  have hF : findRR ws s = if (wordF ws s).2 = true then (((wordF ws s).1 : Int), 0) else (0, 8) := rfl
  rw [hF]
  unfold wordR
  split
  · rename_i h
    have := hlt h
    exact ⟨by simp [moreR]; omega, by simp only; omega, by simp only; omega⟩
  · exact ⟨by simp [moreR], by simp, by simp⟩

theorem monthL_low (i : Nat) (hi : i < 12) : ∃ a b c l, monthL[i]? = some (a :: b :: c :: l) ∧ (97 ≤ a.toNat ∧ a.toNat ≤ 122) ∧ l.length < 100 ∧ monthT ((i : Int) + 1) = [Lib.upperB a, b, c] := by
  rcases (by omega : i = 0 ∨ i = 1 ∨ i = 2 ∨ i = 3 ∨ i = 4 ∨ i = 5 ∨ i = 6 ∨ i = 7 ∨ i = 8 ∨ i = 9 ∨ i = 10 ∨ i = 11) with rfl | rfl | rfl | rfl | rfl | rfl | rfl | rfl | rfl | rfl | rfl | rfl
  all_goals exact ⟨_, _, _, _, rfl, by decide, by decide, by decide⟩

set_option maxHeartbeats 400000 in
theorem rmonthText_any (m : Int) (w : World) :
    Calls Tryz.prog 82 #[.int .i64 m] w fun e w' => e = .returned (.string ⟨(monthT m).toArray⟩) ∧ Below w.heap.size w w' := by
  by_cases hi : 1 ≤ m ∧ m ≤ 12
  · obtain ⟨n, hn12, rfl⟩ : ∃ n : Nat, n < 12 ∧ m = (n : Int) + 1 := ⟨(m - 1).toNat, by omega, by omega⟩
    obtain ⟨a, b, c, l, hl, ha, hn, ht⟩ := monthL_low n hn12
    have hc := monthsO_cell w n _ hl
    have HT := Lib.hid ht
    have i0 : (0 : Int) ≤ (n : Int) := by omega
    have i1 : ¬ (n : Int) + 1 < 1 := by omega
    have i2 : ¬ 12 < (n : Int) + 1 := by omega
    have i3 : (n : Int) < 12 := by omega
    clear hi hl ht
    go_enter Tryz.func82, Tryz.ntmps82
    go_wp2_with fail
    refine (rmonths_any w).mono ?_
    rintro e w1 ⟨rfl, rfl⟩
    generalize hW : w.alloc monthsO = W at *
    have HB := Lib.hid (show Below w.heap.size w W by rw [← hW]; exact (Below.refl _ w).alloc (Nat.le_refl _) _)
    clear hW
    go_wp2_with fail
    refine (rshort_any a b c l ha hn _).mono ?_
    rintro e w1 ⟨rfl, hb⟩
    go_wp2_with fail
    go_ret
    exact ⟨by rw [HT.out]; rfl, HB.out.trans (hb.mono HB.out.size)⟩
  · have HT := Lib.hid (show monthT m = [] from if_neg hi)
    by_cases h0 : m < 1
    · clear hi
      go_enter Tryz.func82, Tryz.ntmps82
      go_wp2_with fail
      go_ret
      exact ⟨by rw [HT.out]; rfl, Below.refl _ _⟩
    · have h6 : 12 < m := by omega
      clear hi
      go_enter Tryz.func82, Tryz.ntmps82
      go_wp2_with fail
      go_ret
      exact ⟨by rw [HT.out]; rfl, Below.refl _ _⟩


theorem calls_flip {P : Program} {f : FuncId} {args : Array Value} {w : World} {E : Ending} (h : Calls P f args w fun e w' => e = E ∧ w' = w) : Calls P f args w fun e w' => e = E ∧ w = w' := h.mono fun _ _ ⟨a, b⟩ => ⟨a, b.symm⟩

set_option maxRecDepth 100000 in
set_option maxHeartbeats 400000 in
theorem r10digits_any (n : Nat) (hn : n ≤ 100000000) : ∀ w : World,
    Calls Tryz.prog 81 #[.int .i64 (n : Int)] w fun e w' => e = .returned (.string ⟨(Lib.decDigits n).toArray⟩) ∧ Below w.heap.size w w' := by
  induction n using Nat.strongRecOn with
  | _ n ih =>
    intro w
    by_cases h10 : n < 10
    · have HD := Lib.hid (digit_of n h10)
      have h1 : ¬ 9 < (n : Int) := by omega
      have h2 : (0 : Int) ≤ (n : Int) := by omega
      clear ih
      go_enter Tryz.func81, Tryz.ntmps81
      go_wp2_with fail
      go_ret
      exact ⟨by rw [← HD.out]; rfl, Below.refl _ _⟩
    · have H1 := Lib.hid (ih (n / 10) (by omega) (by omega))
      have H2 := Lib.hid (ih (n % 10) (by omega) (by omega))
      have HT := Lib.hid (dec_cut n (by omega))
      have hl1 : (Lib.decDigits (n / 10)).length ≤ 20 := by have := dec_len_le (n / 10) 9 (by omega); omega
      have hl2 : (Lib.decDigits (n % 10)).length ≤ 20 := by have := dec_len_le (n % 10) 9 (by omega); omega
      have hn1 : 9 < (n : Int) := by omega
      have e1 : (n : Int) / 10 = ((n / 10 : Nat) : Int) := by omega
      have e2 : (n : Int) % 10 = ((n % 10 : Nat) : Int) := by omega
      clear ih h10
      generalize Lib.decDigits (n / 10) = d1 at *
      generalize Lib.decDigits (n % 10) = d2 at *
      generalize n / 10 = m1 at *
      generalize n % 10 = m2 at *
      go_enter Tryz.func81, Tryz.ntmps81
      go_wp2_with fail
      refine (H1.out _).mono ?_
      rintro e w1 ⟨rfl, hb1⟩
      go_wp2_with fail
      refine (H2.out _).mono ?_
      rintro e w2 ⟨rfl, hb2⟩
      have HB := Lib.hid (hb1.trans (hb2.mono hb1.size))
      clear hb1 hb2
      go_wp2_with fail
      go_ret
      exact ⟨by rw [HT.out]; simp [ba_append], HB.out⟩

set_option maxHeartbeats 400000 in
theorem r10named_any (y : Int) (w : World) :
    Calls Tryz.prog 79 #[.int .i64 y] w fun e w' => e = .returned (.bool (namedB y)) ∧ w' = w := by
  obtain ⟨r, hr⟩ : ∃ r, namedB y = r := ⟨_, rfl⟩
  rw [hr]
  cases r with
  | true =>
    obtain ⟨h1, h2⟩ := of_decide_eq_true hr
    clear hr
    go_enter Tryz.func79, Tryz.ntmps79
    go_wp2_with fail
    go_ret
    exact ⟨rfl, rfl⟩
  | false =>
    have hc := of_decide_eq_false hr
    rcases (by omega : ¬ 1850 ≤ y ∨ (1850 ≤ y ∧ ¬ y ≤ 2149)) with h1 | ⟨h1, h2⟩
    all_goals
      clear hr hc
      go_enter Tryz.func79, Tryz.ntmps79
      go_wp2_with fail
      go_ret
      exact ⟨rfl, rfl⟩

theorem yearR_bad {l : List UInt8} (h : ¬ isYear l) : yearR l = (0, 5) := if_neg h
theorem byte_digit (c : UInt8) (h : 48 ≤ c.toNat ∧ c.toNat ≤ 57) : IntKind.u8.wrap ((c.toNat : Int) - 48) = (c.toNat : Int) - 48 := by rw [IntKind.wrap_u8]; omega

end Go.Proofs.YtmcgbjjcpcgcfaaGreatDoor
