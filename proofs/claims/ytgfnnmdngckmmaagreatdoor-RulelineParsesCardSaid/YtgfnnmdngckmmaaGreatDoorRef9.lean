/-
  The references of layer 9: number, last, sign, digits, Check, Parse, Print return what the program's functions return.
-/
import Derived.Test.YtgfnnmdngckmmaaGreatDoorRef8
import Derived.Test.YtgfnnmdngckmmaaGreatDoorDayParse
import Derived.Test.YtgfnnmdngckmmaaGreatDoorDayPrint
set_option linter.unusedVariables false
namespace Go.Proofs.YtgfnnmdngckmmaaGreatDoor
open Go.RowKit

set_option maxHeartbeats 400000 in
theorem rnumber_out (s : ByteArray) (w : World) (hs : s.size < 1 ∨ 2 < s.size) :
    Calls Tryz.prog 71 #[.string s] w fun e w' => e = .returned (.tuple #[.int .i64 0, .int .i64 5]) ∧ w = w' := by
  rcases hs with hs | hs
  all_goals
    go_enter Tryz.func71, Tryz.ntmps71
    go_wp2_with fail
    go_ret2
    exact ⟨rfl, rfl⟩

set_option maxRecDepth 100000 in
set_option maxHeartbeats 1000000 in
theorem rnumber_one (a : UInt8) (w : World) :
    Calls Tryz.prog 71 #[.string ⟨#[a]⟩] w fun e w' => e = .returned (.tuple #[.int .i64 (numR [a]).1, .int .i64 (numR [a]).2]) ∧ w = w' := by
  have g0 : ∀ h, ((⟨#[a]⟩ : ByteArray)[0]'h).toNat = a.toNat := fun _ => rfl
  by_cases h0 : a.toNat = 48
  · have hb : ((a.toNat : Int) == 48) = true := beq_iff_eq.2 (by omega)
    have hN := Lib.hid (show numR [a] = (0, 5) by simp only [numR]; rw [if_neg (by omega)])
    clear h0
    go_enter Tryz.func71, Tryz.ntmps71
    go_wp2_with fail
    go_ret2
    exact ⟨by rw [hN.out]; rfl, rfl⟩
  · have hb : ((a.toNat : Int) == 48) = false := beq_eq_false_iff_ne.2 (by omega)
    have h256 := a.toNat_lt
    by_cases k : 48 ≤ a.toNat ∧ a.toNat ≤ 57
    · have hN := Lib.hid (show numR [a] = ((a.toNat : Int) - 48, 0) by simp only [numR]; rw [if_pos (by omega)])
      have k1 : ¬ ((a.toNat : Int) < 48) := by omega
      have k2 : ¬ (57 < (a.toNat : Int)) := by omega
      clear h0
      go_enter Tryz.func71, Tryz.ntmps71
      go_wp2_with fail
      go_rounds 2
      all_goals (go_ret2; exact ⟨by rw [hN.out]; rfl, rfl⟩)
    · have hN := Lib.hid (show numR [a] = (0, 5) by simp only [numR]; rw [if_neg (by omega)])
      rcases (by omega : (a.toNat : Int) < 48 ∨ (¬ (a.toNat : Int) < 48 ∧ 57 < (a.toNat : Int))) with k1 | ⟨k1, k2⟩
      all_goals
        clear k h0
        go_enter Tryz.func71, Tryz.ntmps71
        go_wp2_with fail
        go_rounds 2
        all_goals (go_ret2; exact ⟨by rw [hN.out]; rfl, rfl⟩)

set_option maxRecDepth 100000 in
set_option maxHeartbeats 2000000 in
theorem rnumber_two (a b : UInt8) (w : World) :
    Calls Tryz.prog 71 #[.string ⟨#[a, b]⟩] w fun e w' => e = .returned (.tuple #[.int .i64 (numR [a, b]).1, .int .i64 (numR [a, b]).2]) ∧ w = w' := by
  have g0 : ∀ h, ((⟨#[a, b]⟩ : ByteArray)[0]'h).toNat = a.toNat := fun _ => rfl
  have g1 : ∀ h, ((⟨#[a, b]⟩ : ByteArray)[1]'h).toNat = b.toNat := fun _ => rfl
  have h256 := a.toNat_lt
  have h257 := b.toNat_lt
  by_cases h0 : a.toNat = 48
  · have hb : ((a.toNat : Int) == 48) = true := beq_iff_eq.2 (by omega)
    have hN := Lib.hid (show numR [a, b] = (0, 5) by simp only [numR]; rw [if_neg (by omega)])
    clear h0
    go_enter Tryz.func71, Tryz.ntmps71
    go_wp2_with fail
    go_ret2
    exact ⟨by rw [hN.out]; rfl, rfl⟩
  · have hb : ((a.toNat : Int) == 48) = false := beq_eq_false_iff_ne.2 (by omega)
    by_cases k : 48 ≤ a.toNat ∧ a.toNat ≤ 57
    · have k1 : ¬ ((a.toNat : Int) < 48) := by omega
      have k2 : ¬ (57 < (a.toNat : Int)) := by omega
      by_cases j : 48 ≤ b.toNat ∧ b.toNat ≤ 57
      · have j1 : ¬ ((b.toNat : Int) < 48) := by omega
        have j2 : ¬ (57 < (b.toNat : Int)) := by omega
        by_cases h31 : 10 * (a.toNat - 48) + (b.toNat - 48) ≤ 31
        · have hN := Lib.hid (show numR [a, b] = (10 * ((a.toNat : Int) - 48) + ((b.toNat : Int) - 48), 0) by simp only [numR]; rw [if_pos (by omega), if_pos h31])
          have h31i : ¬ (31 < 10 * ((a.toNat : Int) - 48) + ((b.toNat : Int) - 48)) := by omega
          clear h0 k j h31
          go_enter Tryz.func71, Tryz.ntmps71
          go_wp2_with fail
          go_rounds 3
          all_goals (go_ret2; exact ⟨by rw [hN.out]; rfl, rfl⟩)
        · have hN := Lib.hid (show numR [a, b] = (0, 3) by simp only [numR]; rw [if_pos (by omega), if_neg h31])
          have h31i : 31 < 10 * ((a.toNat : Int) - 48) + ((b.toNat : Int) - 48) := by omega
          clear h0 k j h31
          go_enter Tryz.func71, Tryz.ntmps71
          go_wp2_with fail
          go_rounds 3
          all_goals (go_ret2; exact ⟨by rw [hN.out]; rfl, rfl⟩)
      · have hN := Lib.hid (show numR [a, b] = (0, 5) by simp only [numR]; rw [if_neg (by omega)])
        rcases (by omega : (b.toNat : Int) < 48 ∨ (¬ (b.toNat : Int) < 48 ∧ 57 < (b.toNat : Int))) with j1 | ⟨j1, j2⟩
        all_goals
          clear k h0 j
          go_enter Tryz.func71, Tryz.ntmps71
          go_wp2_with fail
          go_rounds 3
          all_goals (go_ret2; exact ⟨by rw [hN.out]; rfl, rfl⟩)
    · have hN := Lib.hid (show numR [a, b] = (0, 5) by simp only [numR]; rw [if_neg (by omega)])
      rcases (by omega : (a.toNat : Int) < 48 ∨ (¬ (a.toNat : Int) < 48 ∧ 57 < (a.toNat : Int))) with k1 | ⟨k1, k2⟩
      all_goals
        clear k h0
        go_enter Tryz.func71, Tryz.ntmps71
        go_wp2_with fail
        go_rounds 3
        all_goals (go_ret2; exact ⟨by rw [hN.out]; rfl, rfl⟩)

theorem rnumber_any (s : ByteArray) (w : World) :
    Calls Tryz.prog 71 #[.string s] w fun e w' => e = .returned (.tuple #[.int .i64 (numR s.data.toList).1, .int .i64 (numR s.data.toList).2]) ∧ w = w' := by
  obtain ⟨⟨l⟩⟩ := s
  match l with
  | [] => exact rnumber_out _ w (.inl (by decide))
  | [a] => exact rnumber_one a w
  | [a, b] => exact rnumber_two a b w
  | a :: b :: c :: l => exact rnumber_out _ w (.inr (by show 2 < (a :: b :: c :: l).length; simp))

def signR (s : List UInt8) : Int × Bool := if 0 ≤ Lib.indexAny s signs then (Lib.indexAny s signs, Lib.hasPrefix (s.drop ((Lib.indexAny s signs).toNat + 1)) [61]) else (0, false)
theorem byte_at (s : ByteArray) (k : Nat) (h : k < s.size) : ∃ c : UInt8, s.data.toList[k]? = some c ∧ ∀ h', (s[k]'h').toNat = c.toNat :=
  ⟨_, Lib.data_getElem? s k h, fun _ => rfl⟩
theorem pre_iff (l : List UInt8) (k : Nat) : Lib.hasPrefix (l.drop k) [61] = decide (l[k]? = some 61) := by
  rw [Bool.eq_iff_iff, decide_eq_true_iff]
  constructor
  · intro h
    have := pre_one h
    rwa [List.getElem?_drop] at this
  · intro h
    have hk : k < l.length := (List.getElem?_eq_some_iff.1 h).1
    rw [List.drop_eq_getElem_cons hk]
    have : l[k] = 61 := by rw [List.getElem?_eq_getElem hk] at h; exact Option.some.inj h
    simp [Lib.hasPrefix, this]

set_option maxRecDepth 100000 in
set_option maxHeartbeats 1000000 in
theorem rsign_any (s : ByteArray) (hs : s.size ≤ 1048576) (w : World) :
    Calls Tryz.prog 69 #[.string s] w fun e w' => e = .returned (.tuple #[.int .i64 (signR s.data.toList).1, .bool (signR s.data.toList).2]) ∧ Below w.heap.size w w' := by
  go_enter Tryz.func69, Tryz.ntmps69
  go_wp2_with fail
  go_loop [4] (fun i => ∃ k : Nat, k ≤ s.size ∧ i = .int .i64 k ∧ Lib.NoAny s.data.toList signs k) (fun i => s.size - (intOf i).toNat)
  case atStart => exact ⟨0, Nat.zero_le _, rfl, Lib.NoAny.zero _ _⟩
  case round =>
    obtain ⟨k, hk, rfl, hn⟩ := hrel
    have HN := Lib.hid hn
    clear hn
    by_cases hlt : k < s.size
    · obtain ⟨c, hc, g0⟩ := byte_at s k hlt
      have HC := Lib.hid hc
      have hd : decide (k < s.size) = true := by simp [hlt]
      have k0 : (0 : Int) ≤ (k : Int) := by omega
      have k1 : (k : Int) < (s.size : Int) := by omega
      clear hc
      by_cases hsg : signs.contains c = true
      · have hi := Lib.indexAny_hit HN.out HC.out hsg
        have HR := Lib.hid (show signR s.data.toList = ((k : Int), decide (s.data.toList[k + 1]? = some 61)) by
          rw [signR, hi, if_pos (by omega), Int.toNat_natCast, pre_iff])
        have hwr : IntKind.i64.wrap ((k : Int) + 1) = (k : Int) + 1 := IntWalk.i64_in _ (by omega)
        have htn : ((k : Int) + 1).toNat = k + 1 := by omega
        have hcc : c = 60 ∨ c = 62 := by simpa [signs] using hsg
        clear hi hsg
        by_cases h1 : k + 1 < s.size
        · obtain ⟨c', hc', g1⟩ := byte_at s (k + 1) h1
          rw [hc'] at HR
          have d1 : (0 : Int) ≤ (k : Int) + 1 := by omega
          have d2 : (k : Int) + 1 < (s.size : Int) := by omega
          have d3 : decide ((k : Int) + 1 < (s.size : Int)) = true := by simp [d2]
          have HE := Lib.hid (show decide (some c' = some (61 : UInt8)) = ((c'.toNat : Int) == 61) by
            rw [Bool.eq_iff_iff]; simp; constructor
            · intro h; subst h; rfl
            · intro h; exact UInt8.toNat_inj.1 (by show c'.toNat = 61; omega))
          clear hc'
          rcases hcc with rfl | rfl
          all_goals
            have g0 : ∀ h, (s[k]'h).toNat = _ := g0
            go_wp2_with fail
            go_quiet (fail)
            go_wp2_with fail
            go_ret2
            exact ⟨by rw [HR.out, HE.out]; rfl, below_drawn (Below.refl _ _) _⟩
        · have hnone : s.data.toList[k + 1]? = none := List.getElem?_eq_none (by rw [size_data]; omega)
          rw [hnone] at HR
          have d3 : decide ((k : Int) + 1 < (s.size : Int)) = false := by simp; omega
          clear hnone
          rcases hcc with rfl | rfl
          all_goals
            have g0 : ∀ h, (s[k]'h).toNat = _ := g0
            go_wp2_with fail
            go_quiet (fail)
            go_wp2_with fail
            go_ret2
            exact ⟨by rw [HR.out]; rfl, below_drawn (Below.refl _ _) _⟩
      · have HN2 := Lib.hid (HN.out.succ HC.out (Bool.eq_false_iff.2 hsg))
        have e1 : ((c.toNat : Int) == 60) = false := beq_eq_false_iff_ne.2 (fun e => hsg (by rw [show c = 60 from UInt8.toNat_inj.1 (by show c.toNat = 60; omega)]; rfl))
        have e2 : ((c.toNat : Int) == 62) = false := beq_eq_false_iff_ne.2 (fun e => hsg (by rw [show c = 62 from UInt8.toNat_inj.1 (by show c.toNat = 62; omega)]; rfl))
        clear hsg
        go_wp2_with fail
        go_round
        case rel => exact ⟨k + 1, by omega, by go_num, HN2.out⟩
        case measure => simp [intOf]; omega
    · obtain rfl : k = s.size := by omega
      have hd : decide (s.size < s.size) = false := by simp
      have HR := Lib.hid (show signR s.data.toList = (0, false) by
        rw [signR, Lib.indexAny_none (by rw [size_data]; exact HN.out)]; rfl)
      go_wp2_with fail
      go_ret2
      exact ⟨by rw [HR.out]; rfl, Below.refl _ _⟩

/-- whether a string begins with the word last -/
def lastR (s : List UInt8) : Bool := decide (4 ≤ s.length) && Lib.equalFold (s.take 4) lastL
theorem rlast_step (x y z : UInt8) (hy : 97 ≤ y.toNat ∧ y.toNat ≤ 122) (hz : z.toNat + 32 = y.toNat) : Lib.foldEq x y = decide (x.toNat = y.toNat ∨ x.toNat = z.toNat) := by
  unfold Lib.foldEq
  rw [decide_eq_decide]
  omega
def lastU : List UInt8 := [76, 65, 83, 84]
theorem last_at (k : Nat) (hk : k < 4) : ∃ y z : UInt8, lastL[k]? = some y ∧ (97 ≤ y.toNat ∧ y.toNat ≤ 122) ∧ z.toNat + 32 = y.toNat ∧ (∀ h, ((⟨#[108, 97, 115, 116]⟩ : ByteArray)[k]'h).toNat = y.toNat) ∧ (∀ h, ((⟨#[76, 65, 83, 84]⟩ : ByteArray)[k]'h).toNat = z.toNat) := by
  rcases (by omega : k = 0 ∨ k = 1 ∨ k = 2 ∨ k = 3) with rfl | rfl | rfl | rfl
  · exact ⟨108, 76, rfl, by decide, by decide, fun _ => rfl, fun _ => rfl⟩
  · exact ⟨97, 65, rfl, by decide, by decide, fun _ => rfl, fun _ => rfl⟩
  · exact ⟨115, 83, rfl, by decide, by decide, fun _ => rfl, fun _ => rfl⟩
  · exact ⟨116, 84, rfl, by decide, by decide, fun _ => rfl, fun _ => rfl⟩
def linv (s : List UInt8) (k : Nat) : Prop := Lib.equalFold ((s.take 4).drop k) (lastL.drop k) = Lib.equalFold (s.take 4) lastL
theorem linv_drop (s : List UInt8) (k : Nat) (x y : UInt8) (hk : k < 4) (hx : s[k]? = some x) (hy : lastL[k]? = some y) : (s.take 4).drop k = x :: (s.take 4).drop (k + 1) ∧ lastL.drop k = y :: lastL.drop (k + 1) := by
  have h1 : (s.take 4)[k]? = some x := by rw [List.getElem?_take, if_pos hk]; exact hx
  obtain ⟨a1, a2⟩ := List.getElem?_eq_some_iff.1 h1
  obtain ⟨b1, b2⟩ := List.getElem?_eq_some_iff.1 hy
  exact ⟨by rw [List.drop_eq_getElem_cons a1, a2], by rw [List.drop_eq_getElem_cons b1, b2]⟩

set_option maxRecDepth 100000 in
set_option maxHeartbeats 1000000 in
theorem rlast_any (s : ByteArray) (hs : s.size ≤ 1048576) (w : World) :
    Calls Tryz.prog 72 #[.string s] w fun e w' => e = .returned (.bool (lastR s.data.toList)) ∧ Below w.heap.size w w' := by
  by_cases h4 : s.size < 4
  · have HR := Lib.hid (show lastR s.data.toList = false by rw [lastR, size_data, decide_eq_false (by omega)]; rfl)
    go_enter Tryz.func72, Tryz.ntmps72
    go_wp2_with fail
    go_ret
    exact ⟨by rw [HR.out]; rfl, Below.refl _ _⟩
  · have HR := Lib.hid (show lastR s.data.toList = Lib.equalFold (s.data.toList.take 4) lastL by rw [lastR, size_data, decide_eq_true (by omega)]; rfl)
    go_enter Tryz.func72, Tryz.ntmps72
    go_wp2_with fail
    go_loopw [3] (fun i wr => ∃ k : Nat, k ≤ 4 ∧ i = .int .i64 k ∧ linv s.data.toList k ∧ Below w.heap.size w wr) (fun i _ => 4 - (intOf i).toNat)
    case atStart => exact ⟨0, by omega, rfl, rfl, Below.refl _ _⟩
    case round =>
      obtain ⟨k, hk, rfl, hi, hb⟩ := hrel
      have HI := Lib.hid hi
      have HB := Lib.hid hb
      clear hi hb
      by_cases hlt : k < 4
      · obtain ⟨c, hc, g0⟩ := byte_at s k (by omega)
        obtain ⟨y, z, hy, hy2, hz, g1, g2⟩ := last_at k hlt
        obtain ⟨d1, d2⟩ := linv_drop _ k c y hlt hc hy
        have HF := Lib.hid (rlast_step c y z hy2 hz)
        have HD := Lib.hid (And.intro d1 d2)
        have k0 : (0 : Int) ≤ (k : Int) := by omega
        have k1 : (k : Int) < (s.size : Int) := by omega
        have k2 : (k : Int) < 4 := by omega
        clear hc hy d1 d2
        by_cases e1 : c.toNat = y.toNat
        · have b1 : ((c.toNat : Int) != (y.toNat : Int)) = false := by simp [e1]
          have HS := Lib.hid (show linv s.data.toList (k + 1) by
            have := HI.out
            rw [linv, HD.out.1, HD.out.2, Lib.equalFold_yes _ _ _ _ (by rw [HF.out]; simp [e1])] at this
            exact this)
          clear e1
          go_wp2_with fail
          go_quiet (fail)
          go_wp2_with fail
          go_roundw
          case rel => exact ⟨k + 1, by omega, by go_num, HS.out, below_drawn HB.out _⟩
          case measure => simp [intOf]; omega
        · have b1 : ((c.toNat : Int) != (y.toNat : Int)) = true := by rw [bne_iff_ne]; omega
          by_cases e2 : c.toNat = z.toNat
          · have b2 : ((c.toNat : Int) != (z.toNat : Int)) = false := by simp [e2]
            have HS := Lib.hid (show linv s.data.toList (k + 1) by
              have := HI.out
              rw [linv, HD.out.1, HD.out.2, Lib.equalFold_yes _ _ _ _ (by rw [HF.out]; simp [e2])] at this
              exact this)
            clear e1 e2
            go_wp2_with fail
            go_quiet (fail)
            go_wp2_with fail
            go_roundw
            case rel => exact ⟨k + 1, by omega, by go_num, HS.out, below_drawn HB.out _⟩
            case measure => simp [intOf]; omega
          · have b2 : ((c.toNat : Int) != (z.toNat : Int)) = true := by rw [bne_iff_ne]; omega
            have HS := Lib.hid (show Lib.equalFold (s.data.toList.take 4) lastL = false by
              have := HI.out
              rw [linv, HD.out.1, HD.out.2, Lib.equalFold_no _ _ _ _ (by rw [HF.out]; simp [e1, e2])] at this
              exact this.symm)
            clear e1 e2
            go_wp2_with fail
            go_quiet (fail)
            go_wp2_with fail
            go_ret
            exact ⟨by rw [HR.out, HS.out]; rfl, below_drawn HB.out _⟩
      · obtain rfl : k = 4 := by omega
        have HS := Lib.hid (show Lib.equalFold (s.data.toList.take 4) lastL = true by
          have := HI.out
          rw [linv, List.drop_of_length_le (by rw [List.length_take]; omega)] at this
          exact this.symm)
        go_wp2_with fail
        go_ret
        exact ⟨by rw [HR.out, HS.out]; rfl, HB.out⟩
end Go.Proofs.YtgfnnmdngckmmaaGreatDoor
