/-
  The reference of layer 4, printing: Decimal, Two, Print return what the program's functions return.
  The reference of layer 4, reading: digit, pair, form, Parse return what the program's functions return.
  The references of layer 6: Check, base, Parse, Print return what the program's functions return.
-/
import Derived.Test.YtbdmieelokmhiaaGreatDoorBackP
import Derived.Test.YtbdmieelokmhiaaGreatDoorRef9
set_option linter.unusedVariables false
namespace Go.Proofs.YtbdmieelokmhiaaGreatDoor
open Go.RowKit

theorem dec_cut (n : Nat) (h : 10 ≤ n) : Lib.decDigits n = Lib.decDigits (n / 10) ++ Lib.decDigits (n % 10) := by
  have h1 := dec_snoc (n / 10) (n % 10) (by omega) (by omega)
  rw [show n / 10 * 10 + n % 10 = n by omega] at h1
  rw [h1]
  have h2 : ∀ k : Fin 10, Lib.decDigits k.val = [UInt8.ofNat (48 + k.val)] := by decide +kernel
  rw [h2 ⟨n % 10, by omega⟩]
theorem dec_len_le (n : Nat) : ∀ m, n < 10 ^ m → (Lib.decDigits n).length ≤ m + 1 := by
  induction n using Nat.strongRecOn with
  | _ n ih =>
    intro m hm
    by_cases h : n < 10
    · have h2 : ∀ k : Fin 10, (Lib.decDigits k.val).length = 1 := by decide +kernel
      rw [h2 ⟨n, h⟩]; omega
    · rw [dec_cut n (by omega), List.length_append]
      have h2 : ∀ k : Fin 10, (Lib.decDigits k.val).length = 1 := by decide +kernel
      rw [h2 ⟨n % 10, by omega⟩]
      match m, hm with
      | 0, hm => simp at hm; omega
      | m + 1, hm =>
        have := ih (n / 10) (by omega) m (by rw [Nat.pow_succ] at hm; omega)
        omega

set_option maxRecDepth 100000 in
set_option maxHeartbeats 400000 in
theorem decimal_one (n : Nat) (h : n < 10) (w : World) :
    Calls Tryz.prog 33 #[.int .i64 (n : Int)] w fun e w' => e = .returned (.string ⟨(Lib.decDigits n).toArray⟩) ∧ w' = w := by
  have HD := Lib.hid (digit_of n h)
  have h1 : (n : Int) < 10 := by omega
  have h2 : (0 : Int) ≤ (n : Int) := by omega
  go_enter Tryz.func33, Tryz.ntmps33
  go_wp2_with fail
  go_ret
  exact ⟨by rw [← HD.out]; rfl, rfl⟩

theorem ret_str {a b : List UInt8} (h : a = b) : Ending.returned (.string ⟨a.toArray⟩) = .returned (.string ⟨b.toArray⟩) := by rw [h]

set_option maxRecDepth 100000 in
set_option maxHeartbeats 400000 in
theorem decimal_any (n : Nat) (hn : n ≤ 100000000) : ∀ w : World,
    Calls Tryz.prog 33 #[.int .i64 (n : Int)] w fun e w' => e = .returned (.string ⟨(Lib.decDigits n).toArray⟩) ∧ Below w.heap.size w w' := by
  induction n using Nat.strongRecOn with
  | _ n ih =>
    intro w
    by_cases h10 : n < 10
    · exact (decimal_one n h10 w).mono fun e w' ⟨h1, h2⟩ => ⟨h1, h2 ▸ Below.refl _ _⟩
    · have H1 := Lib.hid (ih (n / 10) (by omega) (by omega))
      have H2 := Lib.hid (ih (n % 10) (by omega) (by omega))
      have HT := Lib.hid (dec_cut n (by omega))
      have hl1 : (Lib.decDigits (n / 10)).length ≤ 20 := by have := dec_len_le (n / 10) 9 (by omega); omega
      have hl2 : (Lib.decDigits (n % 10)).length ≤ 20 := by have := dec_len_le (n % 10) 9 (by omega); omega
      have hn1 : ¬ (n : Int) < 10 := by omega
      have e1 : (n : Int) / 10 = ((n / 10 : Nat) : Int) := by omega
      have e2 : (n : Int) % 10 = ((n % 10 : Nat) : Int) := by omega
      clear ih h10
      generalize Lib.decDigits (n / 10) = d1 at *
      generalize Lib.decDigits (n % 10) = d2 at *
      generalize n / 10 = m1 at *
      generalize n % 10 = m2 at *
      go_enter Tryz.func33, Tryz.ntmps33
      go_wp2_with fail
      refine (H1.out _).mono ?_
      rintro e w1 ⟨rfl, hb1⟩
      go_wp2_with fail
      refine (H2.out _).mono ?_
      rintro e w2 ⟨rfl, hb2⟩
      have HB := Lib.hid (hb1.trans (hb2.mono hb1.size))
      clear hb1 hb2
      go_wp2_with fail
      go_ret
      exact ⟨by rw [HT.out]; simp [ba_append], HB.out⟩

theorem two_cut : ∀ n : Fin 100, twoT n.val = Lib.decDigits (n.val / 10) ++ Lib.decDigits (n.val % 10) := by decide +kernel
set_option maxRecDepth 100000 in
set_option maxHeartbeats 400000 in
theorem rtwo_any (n : Nat) (hn : n < 100) (w : World) :
    Calls Tryz.prog 67 #[.int .i64 (n : Int)] w fun e w' => e = .returned (.string ⟨(twoT n).toArray⟩) ∧ Below w.heap.size w w' := by
  have H1 := Lib.hid (decimal_any (n / 10) (by omega))
  have H2 := Lib.hid (decimal_any (n % 10) (by omega))
  have HT := Lib.hid (two_cut ⟨n, hn⟩)
  have hl1 : (Lib.decDigits (n / 10)).length ≤ 20 := by have := dec_len_le (n / 10) 9 (by omega); omega
  have hl2 : (Lib.decDigits (n % 10)).length ≤ 20 := by have := dec_len_le (n % 10) 9 (by omega); omega
  have e1 : (n : Int) / 10 = ((n / 10 : Nat) : Int) := by omega
  have e2 : (n : Int) % 10 = ((n % 10 : Nat) : Int) := by omega
  simp only at HT
  generalize Lib.decDigits (n / 10) = d1 at *
  generalize Lib.decDigits (n % 10) = d2 at *
  generalize n / 10 = m1 at *
  generalize n % 10 = m2 at *
  go_enter Tryz.func67, Tryz.ntmps67
  go_wp2_with fail
  refine (H1.out _).mono ?_
  rintro e w1 ⟨rfl, hb1⟩
  go_wp2_with fail
  refine (H2.out _).mono ?_
  rintro e w2 ⟨rfl, hb2⟩
  have HB := Lib.hid (hb1.trans (hb2.mono hb1.size))
  clear hb1 hb2
  go_wp2_with fail
  go_ret
  exact ⟨by rw [HT.out]; simp [ba_append], HB.out⟩

set_option maxRecDepth 100000 in
set_option maxHeartbeats 1000000 in
theorem r4print_pos (x : Nat) (hx : x ≤ 604799) (w : World) :
    Calls Tryz.prog 28 #[.int .i64 (x : Int)] w fun e w' => e = .returned (.tuple #[.string ⟨(offT x).toArray⟩, .int .i64 0]) ∧ Below w.heap.size w w' := by
  have H1 := Lib.hid (decimal_any (x / 3600) (by omega))
  have H2 := Lib.hid (rtwo_any (x / 60 % 60) (by omega))
  have H3 := Lib.hid (rtwo_any (x % 60) (by omega))
  have hl1 : (Lib.decDigits (x / 3600)).length ≤ 20 := by have := dec_len_le (x / 3600) 9 (by omega); omega
  have hl2 : (twoT (x / 60 % 60)).length ≤ 2 := by rw [twoT_len' _ (by omega)]; omega
  have hl3 : (twoT (x % 60)).length ≤ 2 := by rw [twoT_len' _ (by omega)]; omega
  have HT := Lib.hid (show offT x = Lib.decDigits (x / 3600) ++ [58] ++ twoT (x / 60 % 60) ++ (if x % 60 ≠ 0 then [58] ++ twoT (x % 60) else []) from rfl)
  have e1 : (x : Int) / 3600 = ((x / 3600 : Nat) : Int) := by omega
  have e2 : (x : Int) / 60 % 60 = ((x / 60 % 60 : Nat) : Int) := by omega
  have e3 : (x : Int) % 60 = ((x % 60 : Nat) : Int) := by omega
  have x1 : ¬ (x : Int) < -604799 := by omega
  have x2 : ¬ (604799 : Int) < (x : Int) := by omega
  have x3 : ¬ (x : Int) < 0 := by omega
  have hm3 : x % 60 < 60 := by omega
  generalize Lib.decDigits (x / 3600) = d1 at *
  generalize twoT (x / 60 % 60) = d2 at *
  generalize twoT (x % 60) = d3 at *
  generalize x / 3600 = m1 at *
  generalize x / 60 % 60 = m2 at *
  generalize x % 60 = m3 at *
  have hmb : ((m3 : Int) != 0) = decide (m3 ≠ 0) := by
    by_cases h : m3 = 0
    · subst h; rfl
    · rw [decide_eq_true h]; simpa using h
  by_cases hz : m3 = 0
  · subst hz
    have HT2 := Lib.hid (show offT x = d1 ++ [58] ++ d2 by rw [HT.out]; simp)
    clear HT hmb
    go_enter Tryz.func28, Tryz.ntmps28
    go_wp2_with fail
    refine (H1.out _).mono ?_
    rintro e w1 ⟨rfl, hb1⟩
    go_wp2_with fail
    refine (H2.out _).mono ?_
    rintro e w2 ⟨rfl, hb2⟩
    have HB := Lib.hid (hb1.trans (hb2.mono hb1.size))
    clear hb1 hb2
    go_wp2_with fail
    go_ret2
    exact ⟨by rw [HT2.out]; simp [ba_append], HB.out⟩
  · have HT2 := Lib.hid (show offT x = d1 ++ [58] ++ d2 ++ ([58] ++ d3) by rw [HT.out, if_pos hz])
    have hz1 : ((m3 : Int) != 0) = true := by rw [hmb]; exact decide_eq_true hz
    clear HT hmb hz
    go_enter Tryz.func28, Tryz.ntmps28
    go_wp2_with fail
    refine (H1.out _).mono ?_
    rintro e w1 ⟨rfl, hb1⟩
    go_wp2_with fail
    refine (H2.out _).mono ?_
    rintro e w2 ⟨rfl, hb2⟩
    have HB := Lib.hid (hb1.trans (hb2.mono hb1.size))
    clear hb1 hb2
    go_wp2_with fail
    refine (H3.out _).mono ?_
    rintro e w3 ⟨rfl, hb3⟩
    have HB3 := Lib.hid (HB.out.trans (hb3.mono HB.out.size))
    clear HB hb3
    go_wp2_with fail
    go_ret2
    exact ⟨by rw [HT2.out]; simp [ba_append], HB3.out⟩

set_option maxRecDepth 100000 in
set_option maxHeartbeats 1000000 in
theorem r4print_any (x : Int) (w : World) :
    Calls Tryz.prog 28 #[.int .i64 x] w fun e w' => e = .returned (.tuple #[.string ⟨(offPrintR x).1.toArray⟩, .int .i64 (offPrintR x).2]) ∧ Below w.heap.size w w' := by
  by_cases hr : x < -604799 ∨ 604799 < x
  · have HR := Lib.hid (show offPrintR x = ([], 3) from if_pos hr)
    rcases hr with hr | hr
    · go_enter Tryz.func28, Tryz.ntmps28
      go_wp2_with fail
      go_ret2
      exact ⟨by rw [HR.out]; rfl, Below.refl _ _⟩
    · have h' : ¬ x < -604799 := by omega
      go_enter Tryz.func28, Tryz.ntmps28
      go_wp2_with fail
      go_ret2
      exact ⟨by rw [HR.out]; rfl, Below.refl _ _⟩
  · have HR := Lib.hid (offPrint_ok x (by omega) (by omega))
    obtain ⟨n, hn⟩ : ∃ n, x.natAbs = n := ⟨_, rfl⟩
    by_cases h0 : x < 0
    · have hx : x = -(n : Int) := by omega
      have HP := Lib.hid (r4print_pos n (by omega))
      have HR2 := Lib.hid (show offPrintR x = ([45] ++ offT n, 0) by rw [HR.out, if_pos h0, hn])
      have hl : (offT n).length ≤ 9 := offT_len n (by omega)
      have b1 : ¬ x < -604799 := by omega
      have b2 : ¬ 604799 < x := by omega
      have b3 : -x = (n : Int) := by omega
      clear hr hn hx HR
      generalize offT n = o at *
      go_enter Tryz.func28, Tryz.ntmps28
      go_wp2_with fail
      refine (HP.out _).mono ?_
      rintro e w1 ⟨rfl, hb1⟩
      go_wp2_with fail
      go_ret2
      exact ⟨by rw [HR2.out]; simp [ba_append], hb1⟩
    · obtain rfl : x = (n : Int) := by omega
      rw [HR.out, if_neg h0, hn]
      exact r4print_pos n (by omega) w


def digZ (c : Nat) : Int := if 48 ≤ c ∧ c ≤ 57 then (c : Int) - 48 else -1
theorem digZ_bd (c : Nat) : (digZ c < 0 ∧ digZ c = -1 ∧ ¬ (48 ≤ c ∧ c ≤ 57)) ∨ (0 ≤ digZ c ∧ digZ c ≤ 9 ∧ digZ c = (c : Int) - 48 ∧ 48 ≤ c ∧ c ≤ 57) := by unfold digZ; split <;> omega
def pairZ : List UInt8 → Int
  | a :: b :: _ => if 0 ≤ digZ a.toNat ∧ 0 ≤ digZ b.toNat ∧ digZ a.toNat ≤ 5 then 10 * digZ a.toNat + digZ b.toNat else -1
  | _ => -1
theorem pairZ_bd (l : List UInt8) : -1 ≤ pairZ l ∧ pairZ l ≤ 59 := by
  unfold pairZ
  split
  · rename_i a b r
    have h1 := digZ_bd a.toNat
    have h2 := digZ_bd b.toNat
    split <;> omega
  · omega
set_option maxHeartbeats 400000 in
theorem r4digit_any (c : Nat) (w : World) (hc : c < 256) :
    Calls Tryz.prog 104 #[.int .u8 (c : Int)] w fun e w' => e = .returned (.int .i64 (digZ c)) ∧ w' = w := by
  rcases (by omega : (c : Int) < 48 ∨ (¬ (c : Int) < 48 ∧ 57 < (c : Int)) ∨ (¬ (c : Int) < 48 ∧ ¬ 57 < (c : Int))) with h | ⟨h, h2⟩ | ⟨h, h2⟩
  · have HD := Lib.hid (show digZ c = -1 from if_neg (by omega))
    go_enter Tryz.func104, Tryz.ntmps104
    go_wp2_with fail
    go_ret
    exact ⟨by rw [HD.out]; rfl, rfl⟩
  · have HD := Lib.hid (show digZ c = -1 from if_neg (by omega))
    go_enter Tryz.func104, Tryz.ntmps104
    go_wp2_with fail
    go_ret
    exact ⟨by rw [HD.out]; rfl, rfl⟩
  · have HD := Lib.hid (show digZ c = (c : Int) - 48 from if_pos (by omega))
    have h3 : (48 : Int) ≤ (c : Int) := by omega
    have h4 : (c : Int) ≤ 57 := by omega
    go_enter Tryz.func104, Tryz.ntmps104
    go_wp2_with fail
    go_ret
    exact ⟨by rw [HD.out]; rfl, rfl⟩

theorem drop_two {s : ByteArray} {k : Nat} (h : k + 1 < s.size) : ∃ r, s.data.toList.drop k = (s[k]'(by omega)) :: (s[k + 1]'h) :: r := by
  have hl : s.data.toList.length = s.size := by simp
  refine ⟨s.data.toList.drop (k + 2), ?_⟩
  rw [List.drop_eq_getElem_cons (by omega), List.drop_eq_getElem_cons (by omega)]
  rfl
theorem drop_short {s : ByteArray} {k : Nat} (h : ¬ k + 1 < s.size) : pairZ (s.data.toList.drop k) = -1 := by
  have hl : (s.data.toList.drop k).length ≤ 1 := by simp; omega
  match h' : s.data.toList.drop k, hl with
  | [], _ => rfl
  | [a], _ => rfl
  | a :: b :: r, hl => simp at hl

set_option maxRecDepth 100000 in
set_option maxHeartbeats 1000000 in
theorem r4pair_any (s : ByteArray) (k : Nat) (w : World) (hs : s.size ≤ 1048576) (hk : k ≤ 1048576) :
    Calls Tryz.prog 105 #[.string s, .int .i64 (k : Int)] w fun e w' => e = .returned (.int .i64 (pairZ (s.data.toList.drop k))) ∧ Below w.heap.size w w' := by
  by_cases hlt : k + 1 < s.size
  · obtain ⟨r, hr⟩ := drop_two hlt
    obtain ⟨a, ha⟩ : ∃ a : Nat, a = (s[k]'(by omega)).toNat := ⟨_, rfl⟩
    obtain ⟨b, hb⟩ : ∃ b : Nat, b = (s[k + 1]'hlt).toNat := ⟨_, rfl⟩
    have g0 : ∀ h, (s[k]'h).toNat = a := fun _ => ha.symm
    have g1 : ∀ h, (s[k + 1]'h).toNat = b := fun _ => hb.symm
    have HP := Lib.hid (show pairZ (s.data.toList.drop k) = if 0 ≤ digZ a ∧ 0 ≤ digZ b ∧ digZ a ≤ 5 then 10 * digZ a + digZ b else -1 by rw [hr, ha, hb]; rfl)
    have HA := Lib.hid (fun w => r4digit_any a w (by rw [ha]; exact (s[k]'(by omega)).toNat_lt))
    have HB := Lib.hid (fun w => r4digit_any b w (by rw [hb]; exact (s[k + 1]'hlt).toNat_lt))
    have bda := digZ_bd a
    have bdb := digZ_bd b
    have e0 : ¬ (s.size : Int) < (k : Int) + 2 := by omega
    have i0 : (k : Int) < (s.size : Int) := by omega
    have i1 : (k : Int) + 1 < (s.size : Int) := by omega
    have i2 : IntKind.i64.wrap ((k : Int) + 1) = (k : Int) + 1 := IntWalk.i64_in _ (by omega)
    have i3 : ((k : Int) + 1).toNat = k + 1 := by omega
    have i4 : (0 : Int) ≤ (k : Int) + 1 := by omega
    have d0 : decide (k < s.size) = true := by simp; omega
    have d1 : decide (k + 1 < s.size) = true := by simp; omega
    clear hr ha hb hlt
    generalize digZ a = x at *
    generalize digZ b = y at *
    by_cases hx : x < 0
    · have HP2 := Lib.hid (HP.out.trans (if_neg (by omega)))
      clear HP bda bdb
      go_enter Tryz.func105, Tryz.ntmps105
      go_wp2_with fail
      refine (HA.out _).mono ?_
      rintro e w1 ⟨rfl, rfl⟩
      go_wp2_with fail
      go_ret
      exact ⟨by rw [HP2.out]; rfl, Below.refl _ _⟩
    · by_cases hy : y < 0
      · have HP2 := Lib.hid (HP.out.trans (if_neg (by omega)))
        clear HP bda bdb
        go_enter Tryz.func105, Tryz.ntmps105
        go_wp2_with fail
        refine (HA.out _).mono ?_
        rintro e w1 ⟨rfl, rfl⟩
        go_wp2_with fail
        refine (HB.out _).mono ?_
        rintro e w1 ⟨rfl, rfl⟩
        go_wp2_with fail
        go_ret
        exact ⟨by rw [HP2.out]; rfl, Below.refl _ _⟩
      · by_cases h5 : 5 < x
        · have HP2 := Lib.hid (HP.out.trans (if_neg (by omega)))
          clear HP bda bdb
          go_enter Tryz.func105, Tryz.ntmps105
          go_wp2_with fail
          refine (HA.out _).mono ?_
          rintro e w1 ⟨rfl, rfl⟩
          go_wp2_with fail
          refine (HB.out _).mono ?_
          rintro e w1 ⟨rfl, rfl⟩
          go_wp2_with fail
          refine (HA.out _).mono ?_
          rintro e w1 ⟨rfl, rfl⟩
          go_wp2_with fail
          go_ret
          exact ⟨by rw [HP2.out]; rfl, Below.refl _ _⟩
        · have HP2 := Lib.hid (HP.out.trans (if_pos (by omega)))
          have j0 : IntKind.i64.wrap (10 * x) = 10 * x := IntWalk.i64_in _ (by omega)
          have j1 : IntKind.i64.wrap (10 * x + y) = 10 * x + y := IntWalk.i64_in _ (by omega)
          clear HP bda bdb
          go_enter Tryz.func105, Tryz.ntmps105
          go_wp2_with fail
          refine (HA.out _).mono ?_
          rintro e w1 ⟨rfl, rfl⟩
          go_wp2_with fail
          refine (HB.out _).mono ?_
          rintro e w1 ⟨rfl, rfl⟩
          go_wp2_with fail
          refine (HA.out _).mono ?_
          rintro e w1 ⟨rfl, rfl⟩
          go_wp2_with fail
          go_quiet ((go_at_call 104; first | (with_reducible exact Calls.quiet_of_same (HA.out _)) | (with_reducible exact Calls.quiet_of_same (HB.out _))))
          go_wp2_with fail
          go_ret
          exact ⟨by rw [HP2.out]; rfl, below_drawn (Below.refl _ _) _⟩
  · have HP := Lib.hid (drop_short hlt)
    have e0 : (s.size : Int) < (k : Int) + 2 := by omega
    clear hlt
    go_enter Tryz.func105, Tryz.ntmps105
    go_wp2_with fail
    go_ret
    exact ⟨by rw [HP.out]; rfl, Below.refl _ _⟩

-- the plain side
theorem partR_pair (c : UInt8) (r : List UInt8) : partR (c :: r) = if c = 58 ∧ 0 ≤ pairZ r then some ((pairZ r).toNat, r.drop 2) else none := by
  show (if c = 58 ∧ digLen 2 r = 2 ∧ valD (r.take 2) ≤ 59 then some (valD (r.take 2), r.drop 2) else none) = _
  match r with
  | [] => simp [digLen, pairZ]
  | [a] =>
    have h : digLen 2 [a] ≠ 2 := by have := (digLen_le 2 [a]).2; simp at this; omega
    simp [h, pairZ]
  | a :: b :: r =>
    have h1 := digZ_bd a.toNat
    have h2 := digZ_bd b.toNat
    by_cases hc : c = 58
    · by_cases ha : 48 ≤ a.toNat ∧ a.toNat ≤ 57
      · by_cases hb : 48 ≤ b.toNat ∧ b.toNat ≤ 57
        · have hd : digLen 2 (a :: b :: r) = 2 := by simp [digLen, ha, hb]
          have hv : valD ((a :: b :: r).take 2) = (a.toNat - 48) * 10 + (b.toNat - 48) := by simp [valD]
          have hp : pairZ (a :: b :: r) = if digZ a.toNat ≤ 5 then 10 * digZ a.toNat + digZ b.toNat else -1 := by
            show (if 0 ≤ digZ a.toNat ∧ 0 ≤ digZ b.toNat ∧ digZ a.toNat ≤ 5 then 10 * digZ a.toNat + digZ b.toNat else -1) = _
            by_cases h5 : digZ a.toNat ≤ 5
            · rw [if_pos (by omega), if_pos h5]
            · rw [if_neg (by omega), if_neg h5]
          by_cases h5 : digZ a.toNat ≤ 5
          · rw [if_pos h5] at hp
            rw [if_pos ⟨hc, hd, by rw [hv]; omega⟩, if_pos ⟨hc, by rw [hp]; omega⟩, hv, hp]
            have : (a.toNat - 48) * 10 + (b.toNat - 48) = (10 * digZ a.toNat + digZ b.toNat).toNat := by omega
            rw [this]
          · rw [if_neg h5] at hp
            rw [if_neg (fun h => by have := h.2.2; rw [hv] at this; omega), if_neg (fun h => by rw [hp] at h; omega)]
        · have hd : digLen 2 (a :: b :: r) ≠ 2 := by simp [digLen, ha, hb]
          have hp : pairZ (a :: b :: r) = -1 := if_neg (by omega)
          rw [if_neg (fun h => hd h.2.1), if_neg (fun h => by rw [hp] at h; omega)]
      · have hd : digLen 2 (a :: b :: r) ≠ 2 := by simp [digLen, ha]
        have hp : pairZ (a :: b :: r) = -1 := if_neg (by omega)
        rw [if_neg (fun h => hd h.2.1), if_neg (fun h => by rw [hp] at h; omega)]
    · rw [if_neg (fun h => hc h.1), if_neg (fun h => hc h.1)]
theorem pairZ_len (l : List UInt8) : pairZ l < 0 ∨ 2 ≤ l.length := by
  match l with
  | [] => exact .inl (by decide)
  | [a] => exact .inl (by show (-1 : Int) < 0; decide)
  | a :: b :: r => exact .inr (by simp)
theorem r4form_none {l : List UInt8} (h : hoursR l = none) : formR l = none := by simp [formR, stR, stepR, h]
theorem r4form_nil {l : List UInt8} {n : Nat} (h : hoursR l = some (n, [])) : formR l = some (3600 * n) := by simp [formR, stR, stepR, h]
theorem r4form_bad {l : List UInt8} {n : Nat} {c : UInt8} {r : List UInt8} (h : hoursR l = some (n, c :: r)) (hp : partR (c :: r) = none) : formR l = none := by simp [formR, stR, stepR, h, hp]
theorem r4form_min {l : List UInt8} {n m : Nat} {c : UInt8} {r : List UInt8} (h : hoursR l = some (n, c :: r)) (hp : partR (c :: r) = some (m, [])) : formR l = some (3600 * n + 60 * m) := by simp [formR, stR, stepR, h, hp]
theorem r4form_bad2 {l : List UInt8} {n m : Nat} {c d : UInt8} {r r2 : List UInt8} (h : hoursR l = some (n, c :: r)) (hp : partR (c :: r) = some (m, d :: r2)) (hq : partR (d :: r2) = none) : formR l = none := by simp [formR, stR, stepR, h, hp, hq]
theorem r4form_sec {l : List UInt8} {n m x : Nat} {c d : UInt8} {r r2 r3 : List UInt8} (h : hoursR l = some (n, c :: r)) (hp : partR (c :: r) = some (m, d :: r2)) (hq : partR (d :: r2) = some (x, r3)) : formR l = if r3 = [] then some (3600 * n + 60 * m + x) else none := by simp [formR, stR, stepR, h, hp, hq]
theorem r4hours_at {l : List UInt8} {k : Nat} (hk : k ≤ 3) (hl : k ≤ l.length) (hd : allD (l.take k)) (hn : ∀ c, (l.drop k).head? = some c → ¬ (48 ≤ c.toNat ∧ c.toNat ≤ 57)) : hoursR l = if k = 0 ∨ (1 < k ∧ l.head? = some 48) then none else some (valD (l.take k), l.drop k) := by
  have h := digLen_app 3 (l.take k) (l.drop k) hd (by simp; omega) hn
  rw [List.take_append_drop, List.length_take, Nat.min_eq_left hl] at h
  unfold hoursR
  rw [h]
theorem r4form_four {l : List UInt8} (hl : 4 ≤ l.length) (hd : allD (l.take 4)) : formR l = none := by
  match l, hl with
  | a :: b :: c :: d :: r, _ =>
    have ha := hd a (by simp)
    have hb := hd b (by simp)
    have hc := hd c (by simp)
    have hd4 := hd d (by simp)
    have hg : digLen 3 (a :: b :: c :: d :: r) = 3 := by simp [digLen, ha, hb, hc]
    cases hh : hoursR (a :: b :: c :: d :: r) with
    | none => exact r4form_none hh
    | some x =>
      unfold hoursR at hh
      rw [hg] at hh
      simp only at hh
      split at hh
      · cases hh
      · cases hh
        refine r4form_bad (n := valD ((a :: b :: c :: d :: r).take 3)) (c := d) (r := r) ?_ ?_
        · unfold hoursR
          rw [hg]
          simp only
          rw [if_neg (by assumption)]
          rfl
        · rw [partR_pair, if_neg]
          rintro ⟨h, _⟩
          subst h
          exact absurd hd4 (by decide)
theorem r4valD_snoc (l : List UInt8) (c : UInt8) : valD (l ++ [c]) = valD l * 10 + (c.toNat - 48) := by simp [valD]
theorem r4valD_lt (l : List UInt8) (h : allD l) : valD l < 10 ^ l.length := by
  have key : ∀ (l : List UInt8) (a : Nat), allD l → l.foldl (fun a c => a * 10 + (c.toNat - 48)) a < (a + 1) * 10 ^ l.length := by
    intro l
    induction l with
    | nil => intro a _; simp
    | cons c l ih =>
      intro a hd
      have hc := hd c (by simp)
      have := ih (a * 10 + (c.toNat - 48)) (fun x hx => hd x (by simp [hx]))
      rw [List.foldl_cons, List.length_cons, Nat.pow_succ]
      refine Nat.lt_of_lt_of_le this ?_
      rw [Nat.mul_comm (10 ^ l.length) 10, ← Nat.mul_assoc]
      exact Nat.mul_le_mul_right _ (by omega)
  have := key l 0 h
  simpa [valD] using this

def formV (o : Option Nat) : Value := .tuple #[.int .i64 ((o.getD 0 : Nat) : Int), .bool o.isSome]
set_option maxRecDepth 100000 in
set_option maxHeartbeats 2000000 in
theorem r4form_any (s : ByteArray) (w : World) (hs : s.size ≤ 1048576) :
    Calls Tryz.prog 58 #[.string s] w fun e w' => e = .returned (formV (formR s.data.toList)) ∧ Below w.heap.size w w' := by
  have hll : s.data.toList.length = s.size := by simp
  go_enter Tryz.func58, Tryz.ntmps58
  go_wp2_with fail
  go_loop [4, 5] (fun i h => ∃ k : Nat, k ≤ 3 ∧ k ≤ s.size ∧ i = .int .i64 (k : Int) ∧ h = .int .i64 (valD (s.data.toList.take k) : Int) ∧ Aside (allD (s.data.toList.take k))) (fun i _ => s.size - (intOf i).toNat)
  case atStart => exact ⟨0, by omega, Nat.zero_le _, rfl, rfl, fun a ha => by simp at ha⟩
  case round =>
    obtain ⟨k, hk3, hk, rfl, rfl, hall⟩ := hrel
    have hv := r4valD_lt _ hall.out
    have hv999 : valD (s.data.toList.take k) ≤ 999 := by
      have h1 : (s.data.toList.take k).length = k := by simp; omega
      rw [h1] at hv
      rcases (by omega : k = 0 ∨ k = 1 ∨ k = 2 ∨ k = 3) with rfl | rfl | rfl | rfl <;> omega
    have HA := Lib.hid hall.out
    clear hall hv
    by_cases hlt : k < s.size
    · obtain ⟨c8, hc8⟩ : ∃ c : UInt8, c = s[k]'hlt := ⟨_, rfl⟩
      have hdk : s.data.toList.drop k = c8 :: s.data.toList.drop (k + 1) := by rw [List.drop_eq_getElem_cons (by omega), hc8]; rfl
      have htk : s.data.toList.take (k + 1) = s.data.toList.take k ++ [c8] := by
        rw [List.take_succ_eq_append_getElem (by omega), hc8]; rfl
      have g0 : ∀ h, (s[k]'h).toNat = c8.toNat := fun _ => by rw [hc8]
      have HD := Lib.hid (fun w => r4digit_any c8.toNat w c8.toNat_lt)
      have bd := digZ_bd c8.toNat
      have d0 : decide (k < s.size) = true := by simp; omega
      have HT := Lib.hid (And.intro htk hdk)
      clear hc8 htk hdk
      by_cases hx : 0 ≤ digZ c8.toNat
      · have hva : valD (s.data.toList.take k) * 10 + (c8.toNat - 48) = valD (s.data.toList.take (k + 1)) := by rw [HT.out.1, r4valD_snoc]
        have HV := Lib.hid (show (10 * (valD (s.data.toList.take k) : Int) + digZ c8.toNat) = (valD (s.data.toList.take (k + 1)) : Int) by rw [← hva]; omega)
        have HA2 := Lib.hid (show allD (s.data.toList.take (k + 1)) by
          rw [HT.out.1]; intro a ha
          rcases List.mem_append.1 ha with h | h
          · exact HA.out a h
          · simp at h; subst h; omega)
        have b9 : digZ c8.toNat ≤ 9 := by omega
        clear hva bd
        generalize digZ c8.toNat = x at *
        by_cases h3 : k = 3
        · subst h3
          have HF := Lib.hid (r4form_four (l := s.data.toList) (by omega) HA2.out)
          go_wp2_with fail
          refine (HD.out _).mono ?_
          rintro e w1 ⟨rfl, rfl⟩
          go_wp2_with fail
          refine (HD.out _).mono ?_
          rintro e w1 ⟨rfl, rfl⟩
          go_wp2_with fail
          go_ret2
          exact ⟨by rw [HF.out]; rfl, Below.refl _ _⟩
        · have h3' : ¬ (3 : Int) < (k : Int) + 1 := by omega
          clear h3
          go_wp2_with fail
          refine (HD.out _).mono ?_
          rintro e w1 ⟨rfl, rfl⟩
          go_wp2_with fail
          refine (HD.out _).mono ?_
          rintro e w1 ⟨rfl, rfl⟩
          go_wp2_with fail
          go_round
          case rel => exact ⟨k + 1, by omega, by omega, by go_num, by rw [HV.out], HA2.out⟩
          case measure => simp [intOf]; omega
      · have hH := r4hours_at (l := s.data.toList) hk3 (by omega) HA.out (by rw [HT.out.2]; intro c hc; cases hc; omega)
        have hneb : decide (s.size = k) = false := by simp; omega
        have hneb2 : ((s.size : Int) == (k : Int)) = false := by rw [beq_eq_false_iff_ne]; omega
        have hx' : digZ c8.toNat < 0 := by omega
        have HH := Lib.hid hH
        have HT2 := Lib.hid HT.out.2
        clear hH hx bd HT HA
        obtain ⟨c0, hc0⟩ : ∃ c : UInt8, c = s[0]'(by omega) := ⟨_, rfl⟩
        have g00 : ∀ h, (s[0]'h).toNat = c0.toNat := fun _ => by rw [hc0]
        have hhead : s.data.toList.head? = some c0 := by
          rw [List.head?_eq_getElem?, List.getElem?_eq_getElem (by omega), hc0]; rfl
        have hs0 : (0 : Int) < (s.size : Int) := by omega
        by_cases hz : k = 0 ∨ (1 < k ∧ c0 = 48)
        · have HF := Lib.hid (r4form_none (HH.out.trans (if_pos (by rw [hhead]; rcases hz with h | ⟨h, h2⟩; exact .inl h; exact .inr ⟨h, by rw [h2]⟩))))
          clear HH HT2
          by_cases hk0 : k = 0
          · have hk0b : ((k : Int) == 0) = true := by rw [hk0]; rfl
            clear hz hc0 hhead hk0
            go_wp2_with fail
            refine (HD.out _).mono ?_
            rintro e w1 ⟨rfl, rfl⟩
            go_wp2_with fail
            go_ret2
            exact ⟨by rw [HF.out]; rfl, Below.refl _ _⟩
          · have h1 : (1 : Int) < (k : Int) := by omega
            have hk0b : ((k : Int) == 0) = false := by rw [beq_eq_false_iff_ne]; omega
            have h48 : ((c0.toNat : Int) == 48) = true := by
              rcases hz with h | ⟨h, h2⟩
              · exact absurd h hk0
              · rw [h2]; rfl
            clear hz hc0 hhead hk0
            go_wp2_with fail
            refine (HD.out _).mono ?_
            rintro e w1 ⟨rfl, rfl⟩
            go_wp2_with fail
            go_ret2
            exact ⟨by rw [HF.out]; rfl, Below.refl _ _⟩
        · have HR := Lib.hid (HH.out.trans (if_neg (by rw [hhead]; intro h; refine hz ?_; rcases h with h | ⟨h, h2⟩; exact .inl h; exact .inr ⟨h, by injection h2⟩)))
          clear HH
          have hk0b : ((k : Int) == 0) = false := by rw [beq_eq_false_iff_ne]; omega
          have hp1 : ((1 : Int) < (k : Int) ∧ ((c0.toNat : Int) == 48) = false) ∨ ¬ (1 : Int) < (k : Int) := by
            by_cases h : 1 < k
            · refine .inl ⟨by omega, ?_⟩
              rw [beq_eq_false_iff_ne]
              intro h2
              refine hz (.inr ⟨h, ?_⟩)
              exact UInt8.toNat_inj.1 (by have a1 : (48 : UInt8).toNat = 48 := rfl; have a2 : (58 : UInt8).toNat = 58 := rfl; omega)
            · exact .inr (by omega)
          have hPb := pairZ_bd (s.data.toList.drop (k + 1))
          have hPl := pairZ_len (s.data.toList.drop (k + 1))
          have HPm := Lib.hid (fun w => by have h := r4pair_any s (k + 1) w hs (by omega); rwa [show ((k + 1 : Nat) : Int) = (k : Int) + 1 by omega] at h)
          have hpp := partR_pair c8 (s.data.toList.drop (k + 1))
          rw [List.drop_drop] at hpp
          have HPP := Lib.hid hpp
          have hdl : (s.data.toList.drop (k + 1)).length = s.size - (k + 1) := by simp
          rw [hdl] at hPl
          clear hz hc0 hhead hpp hdl
          rw [HT2.out] at HR
          generalize pairZ (s.data.toList.drop (k + 1)) = m at *
          generalize valD (s.data.toList.take k) = hh at *
          have hci : (k : Int) < (s.size : Int) := by omega
          rcases hp1 with ⟨q1, q2⟩ | q1
          all_goals
            go_wp2_with fail
            refine (HD.out _).mono ?_
            rintro e w1 ⟨rfl, rfl⟩
            go_wp2_with fail
            refine (HPm.out _).mono ?_
            rintro e w1 ⟨rfl, hb1⟩
            by_cases h58 : c8 = 58
            · have h58b : ((c8.toNat : Int) != 58) = false := by rw [h58]; rfl
              by_cases hm : m < 0
              · have HF := Lib.hid (r4form_bad HR.out (HPP.out.trans (if_neg (by omega))))
                clear HPP HR
                go_wp2_with fail
                go_ret2
                exact ⟨by rw [HF.out]; rfl, hb1⟩
              · have HP2 := Lib.hid (HPP.out.trans (if_pos ⟨h58, by omega⟩))
                clear HPP
                have hsz : k + 3 ≤ s.size := by omega
                by_cases h3 : s.size = k + 3
                · have hd0 : s.data.toList.drop (k + 1 + 2) = [] := List.drop_eq_nil_of_le (by omega)
                  rw [hd0] at HP2
                  have HF := Lib.hid (r4form_min HR.out HP2.out)
                  have h3b : ((s.size : Int) == (k : Int) + 3) = true := by rw [beq_iff_eq]; omega
                  have hmn : (m.toNat : Int) = m := by omega
                  have HV := Lib.hid (show ((3600 * hh + 60 * m.toNat : Nat) : Int) = 3600 * (hh : Int) + 60 * m by omega)
                  clear hd0 HP2 HR h3 hmn
                  go_wp2_with fail
                  go_ret2
                  exact ⟨by rw [HF.out, formV]; simp only [Option.getD_some, Option.isSome_some]; rw [HV.out]; rfl, hb1⟩
                · have h3b : ((s.size : Int) == (k : Int) + 3) = false := by rw [beq_eq_false_iff_ne]; omega
                  have hlt3 : k + 3 < s.size := by omega
                  obtain ⟨d8, hd8⟩ : ∃ d : UInt8, d = s[k + 3]'hlt3 := ⟨_, rfl⟩
                  have g3 : ∀ h, (s[k + 3]'h).toNat = d8.toNat := fun _ => by rw [hd8]
                  have hd3 : s.data.toList.drop (k + 1 + 2) = d8 :: s.data.toList.drop (k + 4) := by
                    rw [List.drop_eq_getElem_cons (by omega), hd8]; rfl
                  rw [hd3] at HP2
                  have hQb := pairZ_bd (s.data.toList.drop (k + 4))
                  have hQl4 := pairZ_len (s.data.toList.drop (k + 4))
                  have hdl4 : (s.data.toList.drop (k + 4)).length = s.size - (k + 4) := by simp
                  rw [hdl4] at hQl4
                  clear hdl4
                  have HPs := Lib.hid (fun w => by have h := r4pair_any s (k + 4) w hs (by omega); rwa [show ((k + 4 : Nat) : Int) = (k : Int) + 4 by omega] at h)
                  have hqq := partR_pair d8 (s.data.toList.drop (k + 4))
                  rw [List.drop_drop] at hqq
                  have HQQ := Lib.hid hqq
                  clear hd8 hd3 h3 hqq
                  generalize pairZ (s.data.toList.drop (k + 4)) = x at *
                  have hci3 : (k : Int) + 3 < (s.size : Int) := by omega
                  have hci3n : ((k : Int) + 3).toNat = k + 3 := by omega
                  go_wp2_with fail
                  refine (HPs.out _).mono ?_
                  rintro e w2 ⟨rfl, hb2⟩
                  have HB := Lib.hid (hb1.trans (hb2.mono hb1.size))
                  clear hb1 hb2
                  by_cases e58 : d8 = 58
                  · have e58b : ((d8.toNat : Int) != 58) = false := by rw [e58]; rfl
                    by_cases hx0 : x < 0
                    · have HF := Lib.hid (r4form_bad2 HR.out HP2.out (HQQ.out.trans (if_neg (by omega))))
                      clear HP2 HQQ HR
                      go_wp2_with fail
                      go_ret2
                      exact ⟨by rw [HF.out]; rfl, HB.out⟩
                    · have HQ2 := Lib.hid (HQQ.out.trans (if_pos ⟨e58, by omega⟩))
                      have HF := Lib.hid (r4form_sec HR.out HP2.out HQ2.out)
                      clear HP2 HQQ HR HQ2
                      by_cases h6 : s.size = k + 6
                      · have HF2 := Lib.hid (HF.out.trans (if_pos (List.drop_eq_nil_of_le (by omega))))
                        have h6b : ((s.size : Int) != (k : Int) + 6) = false := by rw [bne_eq_false_iff_eq]; omega
                        have HV := Lib.hid (show ((3600 * hh + 60 * m.toNat + x.toNat : Nat) : Int) = 3600 * (hh : Int) + 60 * m + x by omega)
                        clear HF h6
                        go_wp2_with fail
                        go_ret2
                        exact ⟨by rw [HF2.out, formV]; simp only [Option.getD_some, Option.isSome_some]; rw [HV.out]; rfl, HB.out⟩
                      · have hQl : k + 6 ≤ s.size := by omega
                        have HF2 := Lib.hid (HF.out.trans (if_neg (by intro h; have := congrArg List.length h; simp at this; omega)))
                        have h6b : ((s.size : Int) != (k : Int) + 6) = true := by rw [bne_iff_ne]; omega
                        clear HF h6
                        go_wp2_with fail
                        go_ret2
                        exact ⟨by rw [HF2.out]; rfl, HB.out⟩
                  · have e58b : ((d8.toNat : Int) != 58) = true := by rw [bne_iff_ne]; intro h; exact e58 (UInt8.toNat_inj.1 (by have a1 : (48 : UInt8).toNat = 48 := rfl; have a2 : (58 : UInt8).toNat = 58 := rfl; omega))
                    have HF := Lib.hid (r4form_bad2 HR.out HP2.out (HQQ.out.trans (if_neg (fun h => e58 h.1))))
                    clear HP2 HQQ HR
                    go_wp2_with fail
                    go_ret2
                    exact ⟨by rw [HF.out]; rfl, HB.out⟩
            · have h58b : ((c8.toNat : Int) != 58) = true := by rw [bne_iff_ne]; intro h; exact h58 (UInt8.toNat_inj.1 (by have a1 : (48 : UInt8).toNat = 48 := rfl; have a2 : (58 : UInt8).toNat = 58 := rfl; omega))
              have HF := Lib.hid (r4form_bad HR.out (HPP.out.trans (if_neg (fun h => h58 h.1))))
              clear HPP HR
              go_wp2_with fail
              go_ret2
              exact ⟨by rw [HF.out]; rfl, hb1⟩
    · obtain rfl : k = s.size := by omega
      have hH := r4hours_at (l := s.data.toList) hk3 (by omega) HA.out (by rw [List.drop_eq_nil_of_le (by omega)]; intro c hc; cases hc)
      have HH := Lib.hid (show hoursR s.data.toList = if s.size = 0 ∨ (1 < s.size ∧ s.data.toList.head? = some 48) then none else some (valD (s.data.toList.take s.size), []) by rw [hH, List.drop_eq_nil_of_le (by omega)])
      have heb : ((s.size : Int) == (s.size : Int)) = true := by simp
      clear hH hlt HA
      by_cases hz : s.size = 0
      · have HF := Lib.hid (r4form_none (HH.out.trans (if_pos (.inl hz))))
        have hk0b : ((s.size : Int) == 0) = true := by rw [beq_iff_eq]; omega
        have hd0 : decide (s.size < s.size) = false := by simp
        clear HH hz
        go_wp2_with fail
        go_ret2
        exact ⟨by rw [HF.out]; rfl, Below.refl _ _⟩
      · obtain ⟨c0, hc0⟩ : ∃ c : UInt8, c = s[0]'(by omega) := ⟨_, rfl⟩
        have g00 : ∀ h, (s[0]'h).toNat = c0.toNat := fun _ => by rw [hc0]
        have hhead : s.data.toList.head? = some c0 := by
          rw [List.head?_eq_getElem?, List.getElem?_eq_getElem (by omega), hc0]; rfl
        have hs0 : (0 : Int) < (s.size : Int) := by omega
        have hk0b : ((s.size : Int) == 0) = false := by rw [beq_eq_false_iff_ne]; omega
        have hd0 : decide (s.size < s.size) = false := by simp
        by_cases h1 : 1 < s.size
        · have h1i : (1 : Int) < (s.size : Int) := by omega
          by_cases h48 : c0 = 48
          · have HF := Lib.hid (r4form_none (HH.out.trans (if_pos (.inr ⟨h1, by rw [hhead, h48]⟩))))
            have h48b : ((c0.toNat : Int) == 48) = true := by rw [h48]; rfl
            clear HH hz hc0 hhead h1
            go_wp2_with fail
            go_ret2
            exact ⟨by rw [HF.out]; rfl, Below.refl _ _⟩
          · have HF := Lib.hid (r4form_nil (HH.out.trans (if_neg (by rintro (h | ⟨h, h2⟩); exact hz h; rw [hhead] at h2; injection h2 with h2; exact h48 h2))))
            have h48b : ((c0.toNat : Int) == 48) = false := by rw [beq_eq_false_iff_ne]; intro h; exact h48 (UInt8.toNat_inj.1 (by have a1 : (48 : UInt8).toNat = 48 := rfl; have a2 : (58 : UInt8).toNat = 58 := rfl; omega))
            have HV := Lib.hid (show ((3600 * valD (s.data.toList.take s.size) : Nat) : Int) = 3600 * (valD (s.data.toList.take s.size) : Int) by omega)
            clear HH hz hc0 hhead h1
            generalize valD (s.data.toList.take s.size) = hh at *
            go_wp2_with fail
            go_ret2
            exact ⟨by rw [HF.out, formV]; simp only [Option.getD_some, Option.isSome_some]; rw [HV.out]; rfl, Below.refl _ _⟩
        · have h1i : ¬ (1 : Int) < (s.size : Int) := by omega
          have HF := Lib.hid (r4form_nil (HH.out.trans (if_neg (by rintro (h | ⟨h, h2⟩); exact hz h; exact h1 h))))
          have HV := Lib.hid (show ((3600 * valD (s.data.toList.take s.size) : Nat) : Int) = 3600 * (valD (s.data.toList.take s.size) : Int) by omega)
          clear HH hz hc0 hhead h1
          generalize valD (s.data.toList.take s.size) = hh at *
          go_wp2_with fail
          go_ret2
          exact ⟨by rw [HF.out, formV]; simp only [Option.getD_some, Option.isSome_some]; rw [HV.out]; rfl, Below.refl _ _⟩

theorem formV_none : formV none = .tuple #[.int .i64 0, .bool false] := rfl
theorem formV_some (n : Nat) : formV (some n) = .tuple #[.int .i64 (n : Int), .bool true] := rfl
set_option maxRecDepth 100000 in
set_option maxHeartbeats 1000000 in
theorem r4parse_any (s : ByteArray) (w : World) (hs : s.size ≤ 1048576) :
    Calls Tryz.prog 22 #[.string s] w fun e w' => e = .returned (.tuple #[.int .i64 (offParseR s.data.toList).1, .int .i64 (offParseR s.data.toList).2]) ∧ Below w.heap.size w w' := by
  by_cases hmn : s.data.toList.head? = some 45
  · have hE := endR_of s true (decide_eq_true hmn)
    have hb : bare s = s.extract 1 s.size := if_pos hmn
    have hbl := bare_le s hs
    rw [hb] at hE hbl
    have hsz : 0 < s.size := by
      rcases Nat.eq_zero_or_pos s.size with h | h
      · have : s.data.toList = [] := List.eq_nil_of_length_eq_zero (by simpa using h)
        rw [this] at hmn; cases hmn
      · exact h
    have h0 : (0 : Int) < (s.size : Int) := by omega
    have h1 : (1 : Int) ≤ (s.size : Int) := by omega
    have hd : decide (0 < s.size) = true := by simp [hsz]
    have g0 : ∀ h, (s[0]'h).toNat = 45 := by
      intro h
      obtain ⟨a, ha, hb⟩ := head_at (s := s) (by omega)
      rw [hmn] at ha
      cases ha
      rw [hb]; rfl
    obtain ⟨t, ht⟩ : ∃ t, s.extract 1 s.size = t := ⟨_, rfl⟩
    rw [ht] at hE hbl
    have HT := Lib.hid ht
    obtain ⟨F, hF⟩ : ∃ F, formR t.data.toList = F := ⟨_, rfl⟩
    have HF := Lib.hid (fun w => hF ▸ r4form_any t w hbl)
    rw [hF] at hE
    have HE := Lib.hid hE
    clear hmn hb ht hF hE hsz
    cases F with
    | none =>
      rw [formV_none] at HF
      go_enter Tryz.func22, Tryz.ntmps22
      go_wp2_with fail
      rw [HT.out]
      refine (HF.out _).mono ?_
      rintro e w1 ⟨rfl, hb1⟩
      go_wp2_with fail
      go_ret2
      exact ⟨by rw [HE.out]; rfl, hb1⟩
    | some n =>
      rw [formV_some] at HF
      by_cases hn : n = 0
      · have HE2 := Lib.hid (show offParseR s.data.toList = (0, 5) by rw [HE.out, hn]; rfl)
        have hnb : ((n : Int) == 0) = true := by rw [beq_iff_eq]; omega
        clear hn HE
        go_enter Tryz.func22, Tryz.ntmps22
        go_wp2_with fail
        rw [HT.out]
        refine (HF.out _).mono ?_
        rintro e w1 ⟨rfl, hb1⟩
        go_wp2_with fail
        go_ret2
        exact ⟨by rw [HE2.out]; rfl, hb1⟩
      · have hnb : ((n : Int) == 0) = false := by rw [beq_eq_false_iff_ne]; omega
        by_cases hm : 604799 < n
        · have HE2 := Lib.hid (show offParseR s.data.toList = (0, 3) by rw [HE.out]; simp [endR, hn, hm])
          have hmi : (604799 : Int) < (n : Int) := by omega
          clear hn HE hm
          go_enter Tryz.func22, Tryz.ntmps22
          go_wp2_with fail
          rw [HT.out]
          refine (HF.out _).mono ?_
          rintro e w1 ⟨rfl, hb1⟩
          go_wp2_with fail
          go_ret2
          exact ⟨by rw [HE2.out]; rfl, hb1⟩
        · have HE2 := Lib.hid (show offParseR s.data.toList = (-(n : Int), 0) by rw [HE.out]; simp [endR, hn, hm])
          have hmi : ¬ (604799 : Int) < (n : Int) := by omega
          clear hn HE hm
          go_enter Tryz.func22, Tryz.ntmps22
          go_wp2_with fail
          rw [HT.out]
          refine (HF.out _).mono ?_
          rintro e w1 ⟨rfl, hb1⟩
          go_wp2_with fail
          go_ret2
          exact ⟨by rw [HE2.out]; rfl, hb1⟩
  · have hE := endR_of s false (decide_eq_false hmn)
    have hb : bare s = s := if_neg hmn
    rw [hb] at hE
    have hP : (s.size = 0) ∨ ∃ c : Nat, 0 < s.size ∧ (∀ h, (s[0]'h).toNat = c) ∧ ((c : Int) == 45) = false := by
      by_cases h : s.size = 0
      · exact .inl h
      · obtain ⟨a, ha, hb⟩ := head_at (s := s) h
        refine .inr ⟨a.toNat, by omega, fun h => by rw [hb], ?_⟩
        rw [beq_byte]
        rw [ha] at hmn
        exact decide_eq_false hmn
    obtain ⟨F, hF⟩ : ∃ F, formR s.data.toList = F := ⟨_, rfl⟩
    have HF := Lib.hid (fun w => hF ▸ r4form_any s w hs)
    rw [hF] at hE
    have HE := Lib.hid hE
    clear hmn hb hF hE
    have key : ∀ (n : Nat), F = some n → (604799 < n ∧ offParseR s.data.toList = (0, 3)) ∨ (¬ 604799 < n ∧ offParseR s.data.toList = ((n : Int), 0)) := by
      intro n hn
      subst hn
      by_cases h : 604799 < n
      · exact .inl ⟨h, by rw [HE.out]; simp [endR, h]⟩
      · exact .inr ⟨h, by rw [HE.out]; simp [endR, h]⟩
    rcases hP with h0 | ⟨c, h0, g0, hc⟩
    · have h0i : ¬ (0 : Int) < (s.size : Int) := by omega
      have hd : decide (0 < s.size) = false := by simp [h0]
      clear h0
      cases F with
      | none =>
        rw [formV_none] at HF
        clear key
        go_enter Tryz.func22, Tryz.ntmps22
        go_wp2_with fail
        refine (HF.out _).mono ?_
        rintro e w1 ⟨rfl, hb1⟩
        go_wp2_with fail
        go_ret2
        exact ⟨by rw [HE.out]; rfl, hb1⟩
      | some n =>
        rw [formV_some] at HF
        rcases key n rfl with ⟨hm, hE⟩ | ⟨hm, hE⟩
        all_goals
          have HE2 := Lib.hid hE
          clear key HE hE
        · have hmi : (604799 : Int) < (n : Int) := by omega
          go_enter Tryz.func22, Tryz.ntmps22
          go_wp2_with fail
          refine (HF.out _).mono ?_
          rintro e w1 ⟨rfl, hb1⟩
          go_wp2_with fail
          go_ret2
          exact ⟨by rw [HE2.out]; rfl, hb1⟩
        · have hmi : ¬ (604799 : Int) < (n : Int) := by omega
          go_enter Tryz.func22, Tryz.ntmps22
          go_wp2_with fail
          refine (HF.out _).mono ?_
          rintro e w1 ⟨rfl, hb1⟩
          go_wp2_with fail
          go_ret2
          exact ⟨by rw [HE2.out]; rfl, hb1⟩
    · have h0i : (0 : Int) < (s.size : Int) := by omega
      have hd : decide (0 < s.size) = true := by simp [h0]
      clear h0
      cases F with
      | none =>
        rw [formV_none] at HF
        clear key
        go_enter Tryz.func22, Tryz.ntmps22
        go_wp2_with fail
        refine (HF.out _).mono ?_
        rintro e w1 ⟨rfl, hb1⟩
        go_wp2_with fail
        go_ret2
        exact ⟨by rw [HE.out]; rfl, hb1⟩
      | some n =>
        rw [formV_some] at HF
        rcases key n rfl with ⟨hm, hE⟩ | ⟨hm, hE⟩
        all_goals
          have HE2 := Lib.hid hE
          clear key HE hE
        · have hmi : (604799 : Int) < (n : Int) := by omega
          go_enter Tryz.func22, Tryz.ntmps22
          go_wp2_with fail
          refine (HF.out _).mono ?_
          rintro e w1 ⟨rfl, hb1⟩
          go_wp2_with fail
          go_ret2
          exact ⟨by rw [HE2.out]; rfl, hb1⟩
        · have hmi : ¬ (604799 : Int) < (n : Int) := by omega
          go_enter Tryz.func22, Tryz.ntmps22
          go_wp2_with fail
          refine (HF.out _).mono ?_
          rintro e w1 ⟨rfl, hb1⟩
          go_wp2_with fail
          go_ret2
          exact ⟨by rw [HE2.out]; rfl, hb1⟩


set_option maxHeartbeats 1000000 in
theorem r6check_any (x b : Int) (w : World) :
    Calls Tryz.prog 70 #[.agg #[.int .i64 x, .int .i64 b]] w fun e w' => e = .returned (.int .i64 (if clockOk x b = true then 0 else 2)) ∧ Below w.heap.size w w' := by
  by_cases h : clockOk x b = true
  · rw [if_pos h]
    simp only [clockOk, Bool.and_eq_true, decide_eq_true_eq] at h
    obtain ⟨⟨h1, h2⟩, h3, h4⟩ := h
    go_enter Tryz.func70, Tryz.ntmps70
    go_wp2
    go_ret
    exact ⟨rfl, by go_grown⟩
  · rw [if_neg h]
    simp only [clockOk, Bool.and_eq_true, decide_eq_true_eq] at h
    rcases (by omega : x < -604799 ∨ (¬ x < -604799 ∧ 604799 < x) ∨ ((¬ x < -604799 ∧ ¬ 604799 < x) ∧ b < 0) ∨ ((¬ x < -604799 ∧ ¬ 604799 < x) ∧ ¬ b < 0 ∧ 2 < b)) with h1 | ⟨h1, h2⟩ | ⟨⟨h1, h2⟩, h3⟩ | ⟨⟨h1, h2⟩, h3, h4⟩
    all_goals
      clear h
      go_enter Tryz.func70, Tryz.ntmps70
      go_wp2
      go_ret
      exact ⟨rfl, by go_grown⟩
def baseZ (c : Nat) : Int := (baseOf c).getD (-1)
set_option maxHeartbeats 1000000 in
theorem r6base_any (c : Nat) (w : World) :
    Calls Tryz.prog 113 #[.int .u8 (c : Int)] w fun e w' => e = .returned (.int .i64 (baseZ c)) ∧ w' = w := by
  by_cases h1 : c = 119
  · subst h1
    go_enter Tryz.func113, Tryz.ntmps113
    go_wp2
    go_ret
    exact ⟨rfl, rfl⟩
  by_cases h2 : c = 115
  · subst h2
    go_enter Tryz.func113, Tryz.ntmps113
    go_wp2
    go_ret
    exact ⟨rfl, rfl⟩
  by_cases h3 : c = 117
  · subst h3
    go_enter Tryz.func113, Tryz.ntmps113
    go_wp2
    go_ret
    exact ⟨rfl, rfl⟩
  by_cases h4 : c = 103
  · subst h4
    go_enter Tryz.func113, Tryz.ntmps113
    go_wp2
    go_ret
    exact ⟨rfl, rfl⟩
  by_cases h5 : c = 122
  · subst h5
    go_enter Tryz.func113, Tryz.ntmps113
    go_wp2
    go_ret
    exact ⟨rfl, rfl⟩
  have HB := Lib.hid (show baseZ c = -1 by unfold baseZ baseOf; rw [if_neg h1, if_neg h2, if_neg (by omega)]; rfl)
  have e1 : ((c : Int) == 119) = false := by rw [beq_eq_false_iff_ne]; omega
  have e2 : ((c : Int) == 115) = false := by rw [beq_eq_false_iff_ne]; omega
  have e3 : ((c : Int) == 117) = false := by rw [beq_eq_false_iff_ne]; omega
  have e4 : ((c : Int) == 103) = false := by rw [beq_eq_false_iff_ne]; omega
  have e5 : ((c : Int) == 122) = false := by rw [beq_eq_false_iff_ne]; omega
  clear h1 h2 h3 h4 h5
  go_enter Tryz.func113, Tryz.ntmps113
  go_wp2_with fail
  go_ret
  exact ⟨by rw [HB.out]; rfl, rfl⟩

theorem base_cases (c : Nat) : (baseOf c = none ∧ baseZ c < 0) ∨ (baseOf c = some (baseZ c) ∧ 0 ≤ baseZ c ∧ baseZ c ≤ 2) := by
  unfold baseZ baseOf
  split
  · exact .inr ⟨rfl, by decide, by decide⟩
  · split
    · exact .inr ⟨rfl, by decide, by decide⟩
    · split
      · exact .inr ⟨rfl, by decide, by decide⟩
      · exact .inl ⟨rfl, by decide⟩
theorem last_byte {s : ByteArray} (h : 0 < s.size) : s.data.toList.getLast? = some (s[s.size - 1]'(by omega)) := by
  have hl : s.data.toList.length = s.size := by simp
  rw [List.getLast?_eq_getElem?, List.getElem?_eq_getElem (by omega)]
  simp only [hl]
  rfl
theorem front_list {s : ByteArray} (h : 0 < s.size) : (s.extract 0 (s.size - 1)).data.toList = s.data.toList.dropLast := by
  have hl : s.data.toList.length = s.size := by simp
  rw [list_upto, List.dropLast_eq_take, hl]

set_option maxRecDepth 100000 in
set_option linter.unusedSimpArgs false in
set_option maxHeartbeats 2000000 in
theorem r6parse_end (s t : ByteArray) (b : Int) (w : World) (F : Int × Int) (hsz : s.size ≤ 1048576)
    (HP : Hid (∀ W, Calls Tryz.prog 22 #[.string t] W fun e w' => e = .returned (.tuple #[.int .i64 F.1, .int .i64 F.2]) ∧ Below W.heap.size W w'))
    (hs : (t = s ∧ b = 0 ∧ (s.size = 0 ∨ ∃ c : Nat, 0 < s.size ∧ (∀ h, (s[s.size - 1]'h).toNat = c) ∧ baseZ c < 0)) ∨ (∃ c : Nat, 0 < s.size ∧ (∀ h, (s[s.size - 1]'h).toNat = c) ∧ baseZ c = b ∧ 0 ≤ b ∧ b ≤ 2 ∧ Hid (s.extract 0 (s.size - 1) = t))) :
    Calls Tryz.prog 63 #[.string s] w fun e w' => e = .returned (.tuple #[.agg #[.int .i64 (if F.2 = 0 then F.1 else 0), .int .i64 (if F.2 = 0 then b else 0)], .int .i64 F.2]) ∧ Below w.heap.size w w' := by
  obtain ⟨x, er⟩ := F
  simp only at HP ⊢
  by_cases her : er = 0
  · subst her
    simp only [if_true]
    rcases hs with ⟨rfl, rfl, h0 | ⟨c, hpos, g0, hc⟩⟩ | ⟨c, hpos, g0, hbz, hc0, hc2, HT⟩
    · have hi0 : ¬ (0 : Int) < (t.size : Int) := by omega
      have hd : decide (0 < t.size) = false := by rw [h0]; rfl
      clear h0
      go_enter Tryz.func63, Tryz.ntmps63
      go_wp2_with fail
      refine (HP.out _).mono ?_
      rintro e w9 ⟨rfl, hb1⟩
      have b2 : Blk w9 w.heap.size 27 #[.int .i64 0, .int .i64 0] := ((Blk.new' w _ _ rfl).alloc _).below hb1 (by simp; omega)
      have b4 : Blk w9 (w.heap.size + 1) 27 #[.int .i64 0, .int .i64 0] := (Blk.new' (w.alloc _) _ _ (by simp)).below hb1 (by simp)
      have hBw : Below w.heap.size w w9 := (((Below.refl _ w).alloc (Nat.le_refl _) _).alloc (by simp) _).trans (hb1.mono (by simp; omega))
      have c20 : w9.cell? ⟨w.heap.size, 0, none⟩ = some (.int .i64 0) := b2.cell_ rfl
      have c21 : w9.cell? ⟨w.heap.size, 1, none⟩ = some (.int .i64 0) := b2.cell_ rfl
      have c40 : w9.cell? ⟨w.heap.size + 1, 0, none⟩ = some (.int .i64 0) := b4.cell_ rfl
      have c41 : w9.cell? ⟨w.heap.size + 1, 1, none⟩ = some (.int .i64 0) := b4.cell_ rfl
      have f20 := b2.frozen 0
      have f21 := b2.frozen 1
      have f40 := b4.frozen 0
      have HBw := Lib.hid hBw
      clear b2 b4 hb1 hBw HP
      go_wp2_with fail
      refine bodyPost_ret (by simp [results, Tryz.results63, go_sem, c20, c21, c40, c41]; rfl) rfl ⟨?_, ?_⟩
      · rfl
      · have hBv := HBw.out; go_grown
    · have hi0 : (0 : Int) < (t.size : Int) := by omega
      have hd : decide (0 < t.size) = true := by simp; omega
      have i1 : IntKind.i64.wrap ((t.size : Int) - 1) = (t.size : Int) - 1 := IntWalk.i64_in _ (by omega)
      have i2 : ((t.size : Int) - 1).toNat = t.size - 1 := by omega
      have i3 : (1 : Int) ≤ (t.size : Int) := by omega
      have i5 : t.size - 1 < t.size := by omega
      have HBa := Lib.hid (fun w => r6base_any c w)
      clear hpos
      generalize baseZ c = bz at *
      go_enter Tryz.func63, Tryz.ntmps63
      go_wp2_with fail
      refine (HBa.out _).mono ?_
      rintro e w1 ⟨rfl, rfl⟩
      go_wp2_with fail
      refine (HP.out _).mono ?_
      rintro e w9 ⟨rfl, hb1⟩
      have b2 : Blk w9 w.heap.size 27 #[.int .i64 0, .int .i64 0] := ((Blk.new' w _ _ rfl).alloc _).below hb1 (by simp; omega)
      have b4 : Blk w9 (w.heap.size + 1) 27 #[.int .i64 0, .int .i64 0] := (Blk.new' (w.alloc _) _ _ (by simp)).below hb1 (by simp)
      have hBw : Below w.heap.size w w9 := (((Below.refl _ w).alloc (Nat.le_refl _) _).alloc (by simp) _).trans (hb1.mono (by simp; omega))
      have c20 : w9.cell? ⟨w.heap.size, 0, none⟩ = some (.int .i64 0) := b2.cell_ rfl
      have c21 : w9.cell? ⟨w.heap.size, 1, none⟩ = some (.int .i64 0) := b2.cell_ rfl
      have c40 : w9.cell? ⟨w.heap.size + 1, 0, none⟩ = some (.int .i64 0) := b4.cell_ rfl
      have c41 : w9.cell? ⟨w.heap.size + 1, 1, none⟩ = some (.int .i64 0) := b4.cell_ rfl
      have f20 := b2.frozen 0
      have f21 := b2.frozen 1
      have f40 := b4.frozen 0
      have HBw := Lib.hid hBw
      clear b2 b4 hb1 hBw HP
      go_wp2_with fail
      refine bodyPost_ret (by simp [results, Tryz.results63, go_sem, c20, c21, c40, c41]; rfl) rfl ⟨?_, ?_⟩
      · rfl
      · have hBv := HBw.out; go_grown
    · have hi0 : (0 : Int) < (s.size : Int) := by omega
      have hd : decide (0 < s.size) = true := by simp; omega
      have i1 : IntKind.i64.wrap ((s.size : Int) - 1) = (s.size : Int) - 1 := IntWalk.i64_in _ (by omega)
      have i2 : ((s.size : Int) - 1).toNat = s.size - 1 := by omega
      have i3 : (1 : Int) ≤ (s.size : Int) := by omega
      have i5 : s.size - 1 < s.size := by omega
      have HBa := Lib.hid (fun w => r6base_any c w)
      clear hpos
      rw [hbz] at HBa
      clear hbz
      go_enter Tryz.func63, Tryz.ntmps63
      go_wp2_with fail
      refine (HBa.out _).mono ?_
      rintro e w1 ⟨rfl, rfl⟩
      go_wp2_with fail
      refine (HBa.out _).mono ?_
      rintro e w1 ⟨rfl, rfl⟩
      go_wp2_with fail
      rw [HT.out]
      refine (HP.out _).mono ?_
      rintro e w9 ⟨rfl, hb1⟩
      have b2 : Blk w9 w.heap.size 27 #[.int .i64 0, .int .i64 0] := ((Blk.new' w _ _ rfl).alloc _).below hb1 (by simp; omega)
      have b4 : Blk w9 (w.heap.size + 1) 27 #[.int .i64 0, .int .i64 b] := (Blk.new' (w.alloc _) _ _ (by simp)).below hb1 (by simp)
      have hBw : Below w.heap.size w w9 := (((Below.refl _ w).alloc (Nat.le_refl _) _).alloc (by simp) _).trans (hb1.mono (by simp; omega))
      have c20 : w9.cell? ⟨w.heap.size, 0, none⟩ = some (.int .i64 0) := b2.cell_ rfl
      have c21 : w9.cell? ⟨w.heap.size, 1, none⟩ = some (.int .i64 0) := b2.cell_ rfl
      have c40 : w9.cell? ⟨w.heap.size + 1, 0, none⟩ = some (.int .i64 0) := b4.cell_ rfl
      have c41 : w9.cell? ⟨w.heap.size + 1, 1, none⟩ = some (.int .i64 b) := b4.cell_ rfl
      have f20 := b2.frozen 0
      have f21 := b2.frozen 1
      have f40 := b4.frozen 0
      have HBw := Lib.hid hBw
      clear b2 b4 hb1 hBw HP
      go_wp2_with fail
      refine bodyPost_ret (by simp [results, Tryz.results63, go_sem, c20, c21, c40, c41]; rfl) rfl ⟨?_, ?_⟩
      · rfl
      · have hBv := HBw.out; go_grown
  · have herb : (er != 0) = true := by rw [bne_iff_ne]; exact her
    rw [if_neg her, if_neg her]
    clear her
    rcases hs with ⟨rfl, rfl, h0 | ⟨c, hpos, g0, hc⟩⟩ | ⟨c, hpos, g0, hbz, hc0, hc2, HT⟩
    · have hi0 : ¬ (0 : Int) < (t.size : Int) := by omega
      have hd : decide (0 < t.size) = false := by rw [h0]; rfl
      clear h0
      go_enter Tryz.func63, Tryz.ntmps63
      go_wp2_with fail
      refine (HP.out _).mono ?_
      rintro e w9 ⟨rfl, hb1⟩
      have b2 : Blk w9 w.heap.size 27 #[.int .i64 0, .int .i64 0] := ((Blk.new' w _ _ rfl).alloc _).below hb1 (by simp; omega)
      have b4 : Blk w9 (w.heap.size + 1) 27 #[.int .i64 0, .int .i64 0] := (Blk.new' (w.alloc _) _ _ (by simp)).below hb1 (by simp)
      have hBw : Below w.heap.size w w9 := (((Below.refl _ w).alloc (Nat.le_refl _) _).alloc (by simp) _).trans (hb1.mono (by simp; omega))
      have c20 : w9.cell? ⟨w.heap.size, 0, none⟩ = some (.int .i64 0) := b2.cell_ rfl
      have c21 : w9.cell? ⟨w.heap.size, 1, none⟩ = some (.int .i64 0) := b2.cell_ rfl
      have c40 : w9.cell? ⟨w.heap.size + 1, 0, none⟩ = some (.int .i64 0) := b4.cell_ rfl
      have c41 : w9.cell? ⟨w.heap.size + 1, 1, none⟩ = some (.int .i64 0) := b4.cell_ rfl
      have f20 := b2.frozen 0
      have f21 := b2.frozen 1
      have f40 := b4.frozen 0
      have HBw := Lib.hid hBw
      clear b2 b4 hb1 hBw HP
      go_wp2_with fail
      refine bodyPost_ret (by simp [results, Tryz.results63, go_sem, c20, c21, c40, c41]; rfl) rfl ⟨?_, ?_⟩
      · rfl
      · have hBv := HBw.out; go_grown
    · have hi0 : (0 : Int) < (t.size : Int) := by omega
      have hd : decide (0 < t.size) = true := by simp; omega
      have i1 : IntKind.i64.wrap ((t.size : Int) - 1) = (t.size : Int) - 1 := IntWalk.i64_in _ (by omega)
      have i2 : ((t.size : Int) - 1).toNat = t.size - 1 := by omega
      have i3 : (1 : Int) ≤ (t.size : Int) := by omega
      have i5 : t.size - 1 < t.size := by omega
      have HBa := Lib.hid (fun w => r6base_any c w)
      clear hpos
      generalize baseZ c = bz at *
      go_enter Tryz.func63, Tryz.ntmps63
      go_wp2_with fail
      refine (HBa.out _).mono ?_
      rintro e w1 ⟨rfl, rfl⟩
      go_wp2_with fail
      refine (HP.out _).mono ?_
      rintro e w9 ⟨rfl, hb1⟩
      have b2 : Blk w9 w.heap.size 27 #[.int .i64 0, .int .i64 0] := ((Blk.new' w _ _ rfl).alloc _).below hb1 (by simp; omega)
      have b4 : Blk w9 (w.heap.size + 1) 27 #[.int .i64 0, .int .i64 0] := (Blk.new' (w.alloc _) _ _ (by simp)).below hb1 (by simp)
      have hBw : Below w.heap.size w w9 := (((Below.refl _ w).alloc (Nat.le_refl _) _).alloc (by simp) _).trans (hb1.mono (by simp; omega))
      have c20 : w9.cell? ⟨w.heap.size, 0, none⟩ = some (.int .i64 0) := b2.cell_ rfl
      have c21 : w9.cell? ⟨w.heap.size, 1, none⟩ = some (.int .i64 0) := b2.cell_ rfl
      have c40 : w9.cell? ⟨w.heap.size + 1, 0, none⟩ = some (.int .i64 0) := b4.cell_ rfl
      have c41 : w9.cell? ⟨w.heap.size + 1, 1, none⟩ = some (.int .i64 0) := b4.cell_ rfl
      have f20 := b2.frozen 0
      have f21 := b2.frozen 1
      have f40 := b4.frozen 0
      have HBw := Lib.hid hBw
      clear b2 b4 hb1 hBw HP
      go_wp2_with fail
      refine bodyPost_ret (by simp [results, Tryz.results63, go_sem, c20, c21, c40, c41]; rfl) rfl ⟨?_, ?_⟩
      · rfl
      · have hBv := HBw.out; go_grown
    · have hi0 : (0 : Int) < (s.size : Int) := by omega
      have hd : decide (0 < s.size) = true := by simp; omega
      have i1 : IntKind.i64.wrap ((s.size : Int) - 1) = (s.size : Int) - 1 := IntWalk.i64_in _ (by omega)
      have i2 : ((s.size : Int) - 1).toNat = s.size - 1 := by omega
      have i3 : (1 : Int) ≤ (s.size : Int) := by omega
      have i5 : s.size - 1 < s.size := by omega
      have HBa := Lib.hid (fun w => r6base_any c w)
      clear hpos
      rw [hbz] at HBa
      clear hbz
      go_enter Tryz.func63, Tryz.ntmps63
      go_wp2_with fail
      refine (HBa.out _).mono ?_
      rintro e w1 ⟨rfl, rfl⟩
      go_wp2_with fail
      refine (HBa.out _).mono ?_
      rintro e w1 ⟨rfl, rfl⟩
      go_wp2_with fail
      rw [HT.out]
      refine (HP.out _).mono ?_
      rintro e w9 ⟨rfl, hb1⟩
      have b2 : Blk w9 w.heap.size 27 #[.int .i64 0, .int .i64 0] := ((Blk.new' w _ _ rfl).alloc _).below hb1 (by simp; omega)
      have b4 : Blk w9 (w.heap.size + 1) 27 #[.int .i64 0, .int .i64 b] := (Blk.new' (w.alloc _) _ _ (by simp)).below hb1 (by simp)
      have hBw : Below w.heap.size w w9 := (((Below.refl _ w).alloc (Nat.le_refl _) _).alloc (by simp) _).trans (hb1.mono (by simp; omega))
      have c20 : w9.cell? ⟨w.heap.size, 0, none⟩ = some (.int .i64 0) := b2.cell_ rfl
      have c21 : w9.cell? ⟨w.heap.size, 1, none⟩ = some (.int .i64 0) := b2.cell_ rfl
      have c40 : w9.cell? ⟨w.heap.size + 1, 0, none⟩ = some (.int .i64 0) := b4.cell_ rfl
      have c41 : w9.cell? ⟨w.heap.size + 1, 1, none⟩ = some (.int .i64 b) := b4.cell_ rfl
      have f20 := b2.frozen 0
      have f21 := b2.frozen 1
      have f40 := b4.frozen 0
      have HBw := Lib.hid hBw
      clear b2 b4 hb1 hBw HP
      go_wp2_with fail
      refine bodyPost_ret (by simp [results, Tryz.results63, go_sem, c20, c21, c40, c41]; rfl) rfl ⟨?_, ?_⟩
      · rfl
      · have hBv := HBw.out; go_grown

theorem r6parse_any (s : ByteArray) (w : World) (hs : s.size ≤ 1048576) :
    Calls Tryz.prog 63 #[.string s] w fun e w' => e = .returned (.tuple #[.agg #[.int .i64 (clockR s.data.toList).1.1, .int .i64 (clockR s.data.toList).1.2], .int .i64 (clockR s.data.toList).2]) ∧ Below w.heap.size w w' := by
  have key : ∀ t : ByteArray, ∀ b : Int, cutR s.data.toList = (t.data.toList, b) → t.size ≤ 1048576 → ((t = s ∧ b = 0 ∧ (s.size = 0 ∨ ∃ c : Nat, 0 < s.size ∧ (∀ h, (s[s.size - 1]'h).toNat = c) ∧ baseZ c < 0)) ∨ (∃ c : Nat, 0 < s.size ∧ (∀ h, (s[s.size - 1]'h).toNat = c) ∧ baseZ c = b ∧ 0 ≤ b ∧ b ≤ 2 ∧ Hid (s.extract 0 (s.size - 1) = t))) →
      Calls Tryz.prog 63 #[.string s] w fun e w' => e = .returned (.tuple #[.agg #[.int .i64 (clockR s.data.toList).1.1, .int .i64 (clockR s.data.toList).1.2], .int .i64 (clockR s.data.toList).2]) ∧ Below w.heap.size w w' := by
    intro t b hcut ht hsh
    have h := r6parse_end s t b w (offParseR t.data.toList) hs (Lib.hid fun W => r4parse_any t W ht) hsh
    have e1 : clockR s.data.toList = (((if (offParseR t.data.toList).2 = 0 then (offParseR t.data.toList).1 else 0), (if (offParseR t.data.toList).2 = 0 then b else 0)), (offParseR t.data.toList).2) := by
      unfold clockR
      rw [hcut]
      split
      · rename_i h0
        have h0' : (offParseR t.data.toList).2 = 0 := h0
        rw [h0']
      · rename_i h0
        have h0' : ¬ (offParseR t.data.toList).2 = 0 := h0
        rfl
    rw [e1]
    exact h
  by_cases hz : s.size = 0
  · have hn : s.data.toList = [] := List.eq_nil_of_length_eq_zero (by simpa using hz)
    exact key s 0 (by rw [hn]; rfl) hs (.inl ⟨rfl, rfl, .inl hz⟩)
  · have hpos : 0 < s.size := by omega
    have hlast := last_byte hpos
    rcases base_cases (s[s.size - 1]'(by omega)).toNat with ⟨h1, h2⟩ | ⟨h1, h2, h3⟩
    · exact key s 0 (by rw [cutR, hlast]; simp only [Option.bind_some, h1]) hs (.inl ⟨rfl, rfl, .inr ⟨_, hpos, fun _ => rfl, h2⟩⟩)
    · refine key (s.extract 0 (s.size - 1)) (baseZ (s[s.size - 1]'(by omega)).toNat) (by rw [cutR, hlast, front_list hpos]; simp only [Option.bind_some, h1]) (by simp; omega) (.inr ⟨_, hpos, fun _ => rfl, rfl, h2, h3, Lib.hid rfl⟩)

set_option maxRecDepth 100000 in
set_option maxHeartbeats 2000000 in
theorem r6print_any (x b : Int) (w : World) :
    Calls Tryz.prog 32 #[.agg #[.int .i64 x, .int .i64 b]] w fun e w' => e = .returned (.tuple #[.string ⟨(clockPrintR x b).1.toArray⟩, .int .i64 (clockPrintR x b).2]) ∧ Below w.heap.size w w' := by
  have hB0 : Below w.heap.size w (w.alloc (.cells #[.int .i64 x, .int .i64 b] 27)) := (Below.refl _ _).alloc (Nat.le_refl _) _
  have HC := Lib.hid (r6check_any x b (w.alloc (.cells #[.int .i64 x, .int .i64 b] 27)))
  by_cases h : clockOk x b = true
  · rw [if_pos h] at HC
    have HR := Lib.hid (show clockPrintR x b = (clockT x b, 0) from if_pos h)
    simp only [clockOk, Bool.and_eq_true, decide_eq_true_eq] at h
    obtain ⟨⟨h1, h2⟩, h3, h4⟩ := h
    have HO := Lib.hid (fun W => r4print_any x W)
    simp only [offPrint_ok x h1 h2] at HO
    have hol := offT_len x.natAbs (by omega)
    have HT := Lib.hid (show clockT x b = ((if x < 0 then [45] else []) ++ offT x.natAbs) ++ (if b = 1 then [115] else if b = 2 then [117] else []) from rfl)
    have hol2 : ((if x < 0 then [45] else []) ++ offT x.natAbs : List UInt8).length ≤ 10 := by split <;> simp <;> omega
    generalize ((if x < 0 then [45] else []) ++ offT x.natAbs : List UInt8) = ot at *
    clear hol
    rcases (by omega : b = 0 ∨ b = 1 ∨ b = 2) with rfl | rfl | rfl
    all_goals
      go_enter Tryz.func32, Tryz.ntmps32
      go_wp2_with fail
      refine HC.out.mono ?_
      rintro e w1 ⟨rfl, hb1⟩
      have b0 := (Blk.new' w 27 _ rfl).below hb1 (by simp)
      have c0 : w1.cell? ⟨w.heap.size, 0, none⟩ = some (.int .i64 x) := b0.cell_ rfl
      have HB1 := Lib.hid (And.intro b0 (hB0.trans (hb1.mono (by simp))))
      clear b0 hb1 hB0 HC
      go_wp2_with fail
      refine (HO.out _).mono ?_
      rintro e w2 ⟨rfl, hb2⟩
      have HB2 := Lib.hid (And.intro (HB1.out.1.below hb2 HB1.out.1.lt) (HB1.out.2.trans (hb2.mono HB1.out.2.size)))
      have d1 := HB2.out.1.cell_ (i := 1) rfl
      clear hb2 HB1 c0 HO
      go_wp2_with fail
      go_ret2
      refine ⟨?_, HB2.out.2⟩
      rw [HR.out, HT.out]
      first
        | exact conv_join _ _
        | simp
  · rw [if_neg h] at HC
    have HR := Lib.hid (show clockPrintR x b = ([], 2) from if_neg h)
    clear h
    go_enter Tryz.func32, Tryz.ntmps32
    go_wp2_with fail
    refine HC.out.mono ?_
    rintro e w1 ⟨rfl, hb1⟩
    have HB1 := Lib.hid (hB0.trans (hb1.mono (by simp)))
    clear hb1 hB0
    go_wp2_with fail
    go_ret2
    exact ⟨by rw [HR.out]; rfl, HB1.out⟩
end Go.Proofs.YtbdmieelokmhiaaGreatDoor
