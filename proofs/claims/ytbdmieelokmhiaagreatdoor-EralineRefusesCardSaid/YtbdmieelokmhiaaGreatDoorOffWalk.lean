/-
  offset.Parse: what the call returns.
-/
import Derived.Test.YtbdmieelokmhiaaGreatDoorOffParse
import Derived.Deep.DeepCutAuto
import Derived.Deep.CutBlock
set_option linter.unusedVariables false
namespace Go.Proofs.YtbdmieelokmhiaaGreatDoor
open Go.RowKit

/-- one part of an amount: its number and what stands behind it -/
def hoursR (l : List UInt8) : Option (Nat × List UInt8) :=
  let k := digLen 3 l
  if k = 0 ∨ (1 < k ∧ l.head? = some 48) then none else some (valD (l.take k), l.drop k)
def partR (l : List UInt8) : Option (Nat × List UInt8) :=
  match l with
  | [] => none
  | c :: r => if c = 58 ∧ digLen 2 r = 2 ∧ valD (r.take 2) ≤ 59 then some (valD (r.take 2), r.drop 2) else none
/-- a round -/
def stepR (k : Nat) (x : List UInt8 × Nat × Nat × Nat) : Option (List UInt8 × Nat × Nat × Nat) :=
  if k = 0 then (hoursR x.1).map fun y => (y.2, y.1, x.2.2.1, x.2.2.2)
  else if x.1 = [] then some x
  else if k = 1 then (partR x.1).map fun y => (y.2, x.2.1, y.1, x.2.2.2)
  else (partR x.1).map fun y => (y.2, x.2.1, x.2.2.1, y.1)
/-- the state ahead of round k: the rest and the three parts -/
def stR (l : List UInt8) : Nat → Option (List UInt8 × Nat × Nat × Nat)
  | 0 => some (l, 0, 0, 0)
  | k + 1 => (stR l k).bind (stepR k)
def formR (l : List UInt8) : Option Nat := (stR l 3).bind fun (r, h, m, s) => if r = [] then some (3600 * h + 60 * m + s) else none
def offParseR (l : List UInt8) : Int × Int :=
  let minus := l.head? = some 45
  match formR (if minus then l.tail else l) with
  | none => (0, 5)
  | some x => if minus ∧ x = 0 then (0, 5) else if 604799 < x then (0, 3) else (if minus then -(x : Int) else x, 0)
/-- the table of units -/
structure Units (w : World) : Prop where
  u0 : w.cell? ⟨0, 0, none⟩ = some (.int .i64 3600)
  u1 : w.cell? ⟨0, 1, none⟩ = some (.int .i64 60)
  u2 : w.cell? ⟨0, 2, none⟩ = some (.int .i64 1)
theorem Units.below {w w' : World} (h : Units w) (hb : Below w.heap.size w w') : Units w' := by
  have k : ∀ {i : Nat} {v : Value}, w.cell? ⟨0, i, none⟩ = some v → w'.cell? ⟨0, i, none⟩ = some v := fun hc => (hb.cell (block_lt_of_cell hc)).trans hc
  exact ⟨k h.u0, k h.u1, k h.u2⟩

/-- the string behind the sign -/
def bare (s : ByteArray) : ByteArray := if s.data.toList.head? = some 45 then s.extract 1 s.size else s
theorem head_at {s : ByteArray} (h : s.size ≠ 0) : ∃ a, s.data.toList.head? = some a ∧ ∀ h, (s[0]'h) = a := by
  obtain ⟨⟨l⟩⟩ := s
  match l with
  | [] => exact absurd rfl h
  | a :: l => exact ⟨a, rfl, fun _ => rfl⟩
theorem beq_byte (a : UInt8) : ((a.toNat : Int) == 45) = decide (some a = some 45) := by
  have h : ∀ n : Fin 256, (((UInt8.ofNat n.val).toNat : Int) == 45) = decide (some (UInt8.ofNat n.val) = some 45) := by decide +kernel
  have := h ⟨a.toNat, a.toNat_lt⟩
  simpa using this
/-- the answer, from the sign and the amount -/
def endR (mn : Bool) : Option Nat → Int × Int
  | none => (0, 5)
  | some x => if mn = true ∧ x = 0 then (0, 5) else if 604799 < x then (0, 3) else (if mn = true then -(x : Int) else x, 0)
theorem bare_le (s : ByteArray) (h : s.size ≤ 1048576) : (bare s).size ≤ 1048576 := by
  unfold bare; split
  · exact size_part s _ _ _ h
  · exact h
theorem endR_of (s : ByteArray) (mn : Bool) (h : decide (s.data.toList.head? = some 45) = mn) : offParseR s.data.toList = endR mn (formR (bare s).data.toList) := by
  cases mn with
  | true =>
    have hm := of_decide_eq_true h
    rw [bare, if_pos hm, list_from]
    simp only [offParseR, hm, if_true, true_and, ← List.drop_one]
    cases formR (s.data.toList.drop 1) <;> simp [endR]
  | false =>
    have hm := of_decide_eq_false h
    rw [bare, if_neg hm]
    simp only [offParseR, hm, if_false, false_and]
    cases formR s.data.toList <;> simp [endR]
theorem st_next {l : List UInt8} {k : Nat} {x x' : List UInt8 × Nat × Nat × Nat} (h : stR l k = some x) (h' : stepR k x = some x') : stR l (k + 1) = some x' := by
  rw [stR, h]; exact h'
theorem form_none {l : List UInt8} {k : Nat} {x : List UInt8 × Nat × Nat × Nat} (hk : k < 3) (h : stR l k = some x) (h' : stepR k x = none) : formR l = none := by
  have h1 : stR l (k + 1) = none := by rw [stR, h]; exact h'
  have h2 : ∀ j, stR l (k + 1 + j) = none := fun j => by
    induction j with
    | zero => exact h1
    | succ j ih => rw [← Nat.add_assoc, stR, ih]; rfl
  have h3 := h2 (2 - k)
  rw [show k + 1 + (2 - k) = 3 by omega] at h3
  rw [formR, h3]; rfl
theorem st_stay {l : List UInt8} {k : Nat} {y : Nat × Nat × Nat} (hk : k ≤ 3) (h0 : k ≠ 0) (h : stR l k = some ([], y)) : stR l 3 = some ([], y) := by
  have h2 : ∀ j, stR l (k + j) = some ([], y) := fun j => by
    induction j with
    | zero => exact h
    | succ j ih => rw [← Nat.add_assoc, stR, ih]; simp [stepR]; omega
  have h3 := h2 (3 - k)
  rwa [show k + (3 - k) = 3 by omega] at h3
theorem dig_take (n : Nat) (l : List UInt8) : allD (l.take (digLen n l)) := fun a ha => by
  obtain ⟨k, hk, rfl⟩ := List.mem_iff_getElem.1 ha
  simp at hk
  obtain ⟨b, h1, h2⟩ := digLen_in n l k (by omega)
  rw [List.getElem_take]
  rw [List.getElem?_eq_getElem (by omega)] at h1
  rw [Option.some.inj h1]
  exact h2
theorem dig_part (n : Nat) (s : ByteArray) : allD (s.extract 0 (digLen n s.data.toList)).data.toList ∧ (s.extract 0 (digLen n s.data.toList)).data.toList.length = digLen n s.data.toList := by
  rw [list_upto]
  have := digLen_le n s.data.toList
  exact ⟨dig_take n _, by rw [List.length_take]; omega⟩
theorem dig_size (n : Nat) (s : ByteArray) : (s.extract 0 (digLen n s.data.toList)).size = digLen n s.data.toList := by
  have := (dig_part n s).2
  rwa [Array.length_toList] at this
theorem hours_step (q : ByteArray) (K x y z : Nat) (hK : digLen 3 q.data.toList = K) : stepR 0 (q.data.toList, x, y, z) = if K = 0 ∨ (1 < K ∧ q.data.toList.head? = some 48) then none else some ((q.extract K q.size).data.toList, valD (q.extract 0 K).data.toList, y, z) := by
  simp only [stepR, if_true, hoursR, hK]
  rw [list_upto, list_from]
  split <;> simp
theorem part_none (s : ByteArray) : s.extract 0 0 = ⟨#[]⟩ := by
  apply ByteArray.ext
  simp
theorem empty_of {s : ByteArray} (h : s.size = 0) : s = ⟨#[]⟩ := by
  obtain ⟨⟨l⟩⟩ := s
  match l with
  | [] => rfl
  | a :: l => exact absurd (show (a :: l).length = 0 from h) (by simp)
theorem list_empty {s : ByteArray} (h : s.size ≠ 0) : s.toList.isEmpty = false := by
  rw [Lib.toList_data]
  obtain ⟨⟨l⟩⟩ := s
  match l with
  | [] => exact absurd rfl h
  | a :: l => rfl

def upd (k x y z n : Nat) : Nat × Nat × Nat := if k = 1 then (x, n, z) else (x, y, n)
theorem part_step (k : Nat) (hk : k ≠ 0) (l : List UInt8) (hl : l ≠ []) (x y z : Nat) : stepR k (l, x, y, z) = (partR l).map fun p => (p.2, upd k x y z p.1) := by
  simp only [stepR, hk, hl, if_false, upd]
  by_cases h1 : k = 1 <;> simp [h1]
theorem part_is (q : ByteArray) (a : UInt8) (ha : q.data.toList.head? = some a) : partR q.data.toList = if a = 58 ∧ digLen 2 (q.extract 1 q.size).data.toList = 2 ∧ valD ((q.extract 1 q.size).extract 0 2).data.toList ≤ 59 then some (valD ((q.extract 1 q.size).extract 0 2).data.toList, ((q.extract 1 q.size).extract 2 (q.extract 1 q.size).size).data.toList) else none := by
  have h1 : (q.extract 1 q.size).data.toList = q.data.toList.drop 1 := list_from q 1
  have h2 : ((q.extract 1 q.size).extract 0 2).data.toList = (q.data.toList.drop 1).take 2 := by rw [list_upto, h1]
  have h3 : ((q.extract 1 q.size).extract 2 (q.extract 1 q.size).size).data.toList = (q.data.toList.drop 1).drop 2 := by rw [list_from, h1]
  rw [h1, h2, h3]
  clear h1 h2 h3
  generalize q.data.toList = L at *
  match L, ha with
  | b :: l, ha =>
    obtain rfl : b = a := Option.some.inj ha
    rfl
theorem upd_set (k x y z n : Nat) (hk : k = 1 ∨ k = 2) : (#[.int .i64 (x : Int), .int .i64 (y : Int), .int .i64 (z : Int)] : Array Value).setIfInBounds k (.int .i64 (n : Int)) = #[.int .i64 ((upd k x y z n).1 : Int), .int .i64 ((upd k x y z n).2.1 : Int), .int .i64 ((upd k x y z n).2.2 : Int)] := by
  rcases hk with rfl | rfl <;> rfl
theorem upd_le {k x y z n : Nat} (hx : x ≤ 999) (hy : y ≤ 59) (hz : z ≤ 59) (hn : n ≤ 59) : (upd k x y z n).1 ≤ 999 ∧ (upd k x y z n).2.1 ≤ 59 ∧ (upd k x y z n).2.2 ≤ 59 := by
  unfold upd; split <;> simp <;> omega
def arr3 (x y z : Nat) : Array Value := #[.int .i64 (x : Int), .int .i64 (y : Int), .int .i64 (z : Int)]

theorem ret2i {a b c d : Int} (h1 : a = b) (h2 : c = d) : Ending.returned (.tuple #[.int .i64 a, .int .i64 c]) = .returned (.tuple #[.int .i64 b, .int .i64 d]) := by rw [h1, h2]
set_option maxRecDepth 100000 in
set_option maxHeartbeats 4000000 in
theorem offParse_any (s : ByteArray) (w : World) (hs : s.size ≤ 1048576) (hU : Units w) (hE : ErrSyn w) :
    Calls Tryz.prog 47 #[.string s] w fun e w' => e = .returned (.tuple #[.int .i64 (offParseR s.data.toList).1, .int .i64 (offParseR s.data.toList).2]) ∧ Below w.heap.size w w' := by
  obtain ⟨R, hR⟩ : ∃ R, offParseR s.data.toList = R := ⟨_, rfl⟩
  rw [hR]
  have HR0 := Lib.hid hR
  clear hR
  obtain ⟨mn, hmn⟩ : ∃ mn : Bool, decide (s.data.toList.head? = some 45) = mn := ⟨_, rfl⟩
  have HMN := Lib.hid hmn
  clear hmn
  go_enter Tryz.func47, Tryz.ntmps47
  go_upto_region 2 with fail
  go_cut [4, 5] (fun s4 s5 wx => s4 = .pointer (some ⟨w.heap.size, 0, none⟩) ∧ s5 = .bool mn ∧ Blk wx w.heap.size 9 #[.string s] ∧ Below w.heap.size w wx)
  case first =>
    by_cases h0 : s.size = 0
    · obtain rfl := empty_of h0
      go_wp2_with fail
      go_meet
      exact ⟨rfl, by rw [← HMN.out]; rfl, Blk.new' _ _ _ rfl, (Below.refl _ _).alloc (Nat.le_refl _) _⟩
    · obtain ⟨a, ha, hg⟩ := head_at h0
      have hne := list_empty h0
      have g0 : ∀ h, (s[0]'h).toNat = a.toNat := fun h => by rw [hg]
      have HA := Lib.hid ha
      clear hg ha
      go_wp2_with fail
      go_meet
      refine ⟨rfl, ?_, Blk.new' _ _ _ rfl, (Below.refl _ _).alloc (Nat.le_refl _) _⟩
      rw [← HMN.out, HA.out, beq_byte]
  case rest =>
    obtain ⟨rfl, rfl, hB, hb⟩ := hcut
    have hc : wc.cell? ⟨w.heap.size, 0, none⟩ = some (.string s) := hB.cell_ rfl
    have hf := hB.frozen 0
    go_upto_if 24 with fail
    go_cut [4, 5] (fun s4 s5 wx => s4 = .pointer (some ⟨w.heap.size, 0, none⟩) ∧ s5 = .bool mn ∧ Blk wx w.heap.size 9 #[.string (bare s)] ∧ Below w.heap.size w wx)
    case first =>
      cases mn with
      | true =>
        have hm := of_decide_eq_true HMN.out
        have h1 : 1 ≤ s.size := by
          rcases Nat.eq_zero_or_pos s.size with h | h
          · rw [empty_of h] at hm; cases hm
          · exact h
        have HS := Lib.hid (show bare s = s.extract 1 s.size from if_pos hm)
        have HB := Lib.hid (And.intro hB hb)
        clear hm hB hb
        go_wp2_with fail
        go_meet
        refine ⟨rfl, rfl, ?_, HB.out.2.setCell (Nat.le_refl _) _⟩
        rw [HS.out]
        exact HB.out.1.set_ 0 _
      | false =>
        have HS := Lib.hid (show bare s = s from if_neg (of_decide_eq_false HMN.out))
        go_wp2_with fail
        go_meet
        exact ⟨rfl, rfl, by rw [HS.out]; exact hB, hb⟩
    case rest =>
      obtain ⟨rfl, rfl, hB, hb⟩ := hcut
      have hsr : (bare s).size ≤ 1048576 := bare_le s hs
      have HR := Lib.hid (show R = endR mn (formR (bare s).data.toList) from HR0.out.symm.trans (endR_of s mn HMN.out))
      clear HMN hs HR0
      generalize bare s = r at *
      have hA : w.heap.size < wc.heap.size := hB.lt
      obtain ⟨wo, rfl⟩ : ∃ wo : World, wo = wc := ⟨_, rfl⟩
      go_upto_block 0 with fail
      go_cut [4, 5, 7] (fun s4 s5 s7 wx => s4 = .pointer (some ⟨w.heap.size, 0, none⟩) ∧ s5 = .bool mn ∧ s7 = .pointer (some ⟨wo.heap.size, 0, none⟩) ∧ ∃ (q : ByteArray) (x y z : Nat), Aside (stR r.data.toList 3 = some (q.data.toList, x, y, z)) ∧ Blk wx w.heap.size 9 #[.string q] ∧ Blk wx wo.heap.size 128 #[.int .i64 (x : Int), .int .i64 (y : Int), .int .i64 (z : Int)] ∧ Below w.heap.size w wx ∧ x ≤ 999 ∧ y ≤ 59 ∧ z ≤ 59)
      case first =>
        go_wp2_with fail
        go_loopw [28] (fun i wr => ∃ (k : Nat) (q : ByteArray) (x y z : Nat), k ≤ 3 ∧ i = .int .i64 (k : Int) ∧ q.size ≤ 1048576 ∧ Aside (stR r.data.toList k = some (q.data.toList, x, y, z)) ∧ Blk wr w.heap.size 9 #[.string q] ∧ Blk wr wo.heap.size 128 #[.int .i64 (x : Int), .int .i64 (y : Int), .int .i64 (z : Int)] ∧ Below w.heap.size w wr ∧ x ≤ 999 ∧ y ≤ 59 ∧ z ≤ 59) (fun i _ => 3 - (intOf i).toNat)
        case atStart => exact ⟨0, r, 0, 0, 0, by omega, rfl, hsr, rfl, hB.alloc _, Blk.new' _ _ _ rfl, hb.alloc hb.size _, by omega, by omega, by omega⟩
        case round =>
          obtain ⟨k, q, x, y, z, hk, rfl, hq, hst, hQ, hP, hb, hx, hy, hz⟩ := hrel
          have hcq : wr.cell? ⟨w.heap.size, 0, none⟩ = some (.string q) := hQ.cell_ rfl
          have hfq := hQ.frozen 0
          rcases (by omega : k = 3 ∨ k = 0 ∨ (0 < k ∧ k < 3)) with rfl | rfl | hk12
          · go_wp2_with fail
            go_meet
            exact ⟨rfl, rfl, rfl, q, x, y, z, hst, hQ, hP, hb, hx, hy, hz⟩
          · obtain ⟨hK3, hKq⟩ := digLen_le 3 q.data.toList
            have HD := Lib.hid (digits_any 3 q w.heap.size wr (by decide) hq hcq hfq)
            obtain ⟨HP1, HP2⟩ := dig_part 3 q
            have hl1 : (q.extract 0 (digLen 3 q.data.toList)).size = digLen 3 q.data.toList := dig_size 3 q
            have HST := Lib.hid hst
            have HO := Lib.hid (hours_step q _ x y z rfl)
            generalize digLen 3 q.data.toList = K at *
            have HDig := Lib.hid (And.intro HP1 HP2)
            clear hst HP1 HP2 hcq hfq
            have HQ := Lib.hid hQ
            have HP := Lib.hid hP
            have Hb := Lib.hid hb
            clear hQ hP hb
            have hAr : w.heap.size < wr.heap.size := HQ.out.lt
            go_wp2_with fail
            refine HD.out.mono ?_
            rintro e w1 ⟨rfl, h1⟩
            have HQ1 := Lib.hid (show Blk w1 w.heap.size 9 #[.string (q.extract K q.size)] from h1 ▸ HQ.out.set_ 0 _)
            have HP1 := Lib.hid (show Blk w1 wo.heap.size 128 #[.int .i64 (x : Int), .int .i64 (y : Int), .int .i64 (z : Int)] from h1 ▸ HP.out.far (by show wo.heap.size ≠ w.heap.size; omega) _)
            have Hb1 := Lib.hid (show Below w.heap.size w w1 from h1 ▸ Hb.out.setCell (Nat.le_refl _) _)
            clear h1 HQ HP Hb HD
            go_wp2_with fail
            by_cases h0 : K = 0
            · subst h0
              rw [part_none]
              refine (pint_none w1 (hE.below Hb1.out)).mono ?_
              rintro e w2 ⟨⟨t, p, rfl⟩, hb2⟩
              have hb3 := Hb1.out.trans (hb2.mono Hb1.out.size)
              have HRR := Lib.hid (show R = (0, 5) by rw [HR.out, form_none (by decide) HST.out (by rw [HO.out]; exact if_pos (.inl rfl))]; rfl)
              go_wp2_with fail
              go_ret2
              exact ⟨by rw [HRR.out]; rfl, hb3⟩
            · refine (pint_any (q.extract 0 K) w1 (by intro h; rw [h] at HDig; exact h0 HDig.out.2.symm) (by rw [HDig.out.2]; omega) HDig.out.1).mono ?_
              rintro e w2 ⟨rfl, hb2⟩
              have HQ2 := Lib.hid (HQ1.out.below hb2 (by have := HQ1.out.lt; omega))
              have HP2 := Lib.hid (HP1.out.below hb2 (by have := HP1.out.lt; omega))
              have Hb2 := Lib.hid (Hb1.out.trans (hb2.mono Hb1.out.size))
              clear hb2 HQ1 HP1 Hb1
              have HVL := Lib.hid (show valD (q.extract 0 K).data.toList ≤ 999 by
                have := valD_lt _ HDig.out.1
                have h2 : (10 : Nat) ^ (q.extract 0 K).data.toList.length ≤ 10 ^ 3 := Nat.pow_le_pow_right (by decide) (by rw [HDig.out.2]; exact hK3)
                omega)
              generalize hV : valD (q.extract 0 K).data.toList = V at *
              have HV := Lib.hid hV
              have hV9 := HVL.out
              clear hV HVL
              have hb3 : Below w.heap.size w w2 := Hb2.out
              have hcP : w2.cell? ⟨wo.heap.size, 0, none⟩ = some (.int .i64 (x : Int)) := HP2.out.cell_ rfl
              have hfP := HP2.out.frozen 0
              have HB3 := Lib.hid hb3
              clear hb3
              have hq0 : q.size ≠ 0 := by have : q.data.toList.length = q.size := by simp
                                          omega
              obtain ⟨a, ha, hg⟩ := head_at hq0
              have g0 : ∀ h, ((q.extract 0 K)[0]'h).toNat = a.toNat := fun h => by rw [ByteArray.getElem_extract]; simp only [Nat.zero_add]; rw [hg]
              have HA := Lib.hid ha
              clear hg ha
              by_cases h1 : K = 1
              · subst h1
                have HO1 := Lib.hid (show stepR 0 (q.data.toList, x, y, z) = some ((q.extract 1 q.size).data.toList, V, y, z) by rw [HO.out, if_neg (by omega)])
                go_wp2_with fail
                go_roundw
                case rel => exact ⟨1, q.extract 1 q.size, V, y, z, by decide, rfl, size_part _ _ _ _ hq, st_next HST.out HO1.out, HQ2.out.far (by show w.heap.size ≠ wo.heap.size; omega) _, HP2.out.set_ 0 _, HB3.out.setCell (by show w.heap.size ≤ wo.heap.size; omega) _, by omega, hy, hz⟩
                case measure => simp [intOf]
              · have hK1 : 1 < K := by omega
                by_cases h48 : a = 48
                · subst h48
                  have HRR := Lib.hid (show R = (0, 5) by rw [HR.out, form_none (by decide) HST.out (by rw [HO.out]; exact if_pos (.inr ⟨hK1, HA.out⟩))]; rfl)
                  go_wp2_with fail
                  go_ret2
                  exact ⟨by rw [HRR.out]; rfl, HB3.out⟩
                · have h48b : ((a.toNat : Int) == 48) = false := beq_eq_false_iff_ne.2 (fun e => h48 (UInt8.toNat_inj.1 (by show a.toNat = 48; omega)))
                  have HO1 := Lib.hid (show stepR 0 (q.data.toList, x, y, z) = some ((q.extract K q.size).data.toList, V, y, z) by rw [HO.out, if_neg (by rw [HA.out]; simp; exact ⟨h0, fun _ => h48⟩)])
                  clear h48
                  go_wp2_with fail
                  go_roundw
                  case rel => exact ⟨1, q.extract K q.size, V, y, z, by decide, rfl, size_part _ _ _ _ hq, st_next HST.out HO1.out, HQ2.out.far (by show w.heap.size ≠ wo.heap.size; omega) _, HP2.out.set_ 0 _, HB3.out.setCell (by show w.heap.size ≤ wo.heap.size; omega) _, by omega, hy, hz⟩
                  case measure => simp [intOf]
          · obtain ⟨hk0, hk3⟩ : 0 < k ∧ k < 3 := by omega
            have hk12 : k = 1 ∨ k = 2 := by omega
            have hkb : ((k : Int) == 0) = false := beq_eq_false_iff_ne.2 (by omega)
            have hki : (k : Int) < 3 := by omega
            have hkp : (0 : Int) < (k : Int) := by omega
            have HST := Lib.hid hst
            clear hst
            by_cases hq0 : q.size = 0
            · obtain rfl := empty_of hq0
              go_wp2_with fail
              go_meet
              exact ⟨rfl, rfl, rfl, ⟨#[]⟩, x, y, z, st_stay (by omega) (by omega) HST.out, hQ, hP, hb, hx, hy, hz⟩
            obtain ⟨a, ha, hg⟩ := head_at hq0
            have hne := list_empty hq0
            have g0 : ∀ h, (q[0]'h).toNat = a.toNat := fun h => by rw [hg]
            have HPS := Lib.hid ((part_step k (by omega) q.data.toList (by intro h; rw [h] at ha; cases ha) x y z).trans (by rw [part_is q a ha]))
            have hq1 : 0 < q.size := by omega
            clear hg ha
            by_cases h58 : a = 58
            · subst h58
              have HQ := Lib.hid hQ
              have HP := Lib.hid hP
              have Hb := Lib.hid hb
              have hAr : w.heap.size < wr.heap.size := hQ.lt
              clear hQ hP hb
              go_wp2_with fail
              have hcT : (wr.setCell ⟨w.heap.size, 0, none⟩ (.string (q.extract 1 q.size))).cell? ⟨w.heap.size, 0, none⟩ = some (.string (q.extract 1 q.size)) := (HQ.out.set_ 0 _).cell_ rfl
              have HQ0 := Lib.hid (HQ.out.set_ 0 (.string (q.extract 1 q.size)))
              have HP0 := Lib.hid (HP.out.far (p := ⟨w.heap.size, 0, none⟩) (by show wo.heap.size ≠ w.heap.size; omega) (.string (q.extract 1 q.size)))
              have Hb0 := Lib.hid (Hb.out.setCell (p := ⟨w.heap.size, 0, none⟩) (Nat.le_refl _) (.string (q.extract 1 q.size)))
              have hAr0 : w.heap.size < (wr.setCell ⟨w.heap.size, 0, none⟩ (.string (q.extract 1 q.size))).heap.size := HQ0.out.lt
              have hT : (q.extract 1 q.size).size ≤ 1048576 := size_part _ _ _ _ hq
              clear HQ HP Hb hcq hfq
              generalize wr.setCell ⟨w.heap.size, 0, none⟩ (.string (q.extract 1 q.size)) = w0 at *
              generalize q.extract 1 q.size = T at *
              obtain ⟨hK2, hKT⟩ := digLen_le 2 T.data.toList
              have HD := Lib.hid (digits_any 2 T w.heap.size w0 (by decide) hT hcT (HQ0.out.frozen 0))
              obtain ⟨HP1, HP2⟩ := dig_part 2 T
              have hl1 : (T.extract 0 (digLen 2 T.data.toList)).size = digLen 2 T.data.toList := dig_size 2 T
              generalize digLen 2 T.data.toList = K at *
              have HDig := Lib.hid (And.intro HP1 HP2)
              clear HP1 HP2 hcT
              refine HD.out.mono ?_
              rintro e w1 ⟨rfl, h1⟩
              have HQ1 := Lib.hid (show Blk w1 w.heap.size 9 #[.string (T.extract K T.size)] from h1 ▸ HQ0.out.set_ 0 _)
              have HP1 := Lib.hid (show Blk w1 wo.heap.size 128 #[.int .i64 (x : Int), .int .i64 (y : Int), .int .i64 (z : Int)] from h1 ▸ HP0.out.far (by show wo.heap.size ≠ w.heap.size; omega) _)
              have Hb1 := Lib.hid (show Below w.heap.size w w1 from h1 ▸ Hb0.out.setCell (Nat.le_refl _) _)
              clear h1 HQ0 HP0 Hb0 HD
              go_wp2_with fail
              by_cases h0 : K = 0
              · subst h0
                rw [part_none]
                refine (pint_none w1 (hE.below Hb1.out)).mono ?_
                rintro e w2 ⟨⟨t, p, rfl⟩, hb2⟩
                have hb3 := Hb1.out.trans (hb2.mono Hb1.out.size)
                have HRR := Lib.hid (show R = (0, 5) by rw [HR.out, form_none hk3 HST.out (by rw [HPS.out, if_neg (by omega)]; rfl)]; rfl)
                have HB3 := Lib.hid hb3
                clear hb2 hb3
                go_wp2_with fail
                go_ret2
                exact ⟨by rw [HRR.out]; rfl, HB3.out⟩
              · refine (pint_any (T.extract 0 K) w1 (by intro h; rw [h] at HDig; exact h0 HDig.out.2.symm) (by rw [HDig.out.2]; omega) HDig.out.1).mono ?_
                rintro e w2 ⟨rfl, hb2⟩
                have HQ2 := Lib.hid (HQ1.out.below hb2 (by have := HQ1.out.lt; omega))
                have HP2 := Lib.hid (HP1.out.below hb2 (by have := HP1.out.lt; omega))
                have HB2 := Lib.hid (Hb1.out.trans (hb2.mono Hb1.out.size))
                clear hb2 HQ1 HP1 Hb1
                have HVL := Lib.hid (show valD (T.extract 0 K).data.toList ≤ 999 by
                  have := valD_lt _ HDig.out.1
                  have h2 : (10 : Nat) ^ (T.extract 0 K).data.toList.length ≤ 10 ^ 3 := Nat.pow_le_pow_right (by decide) (by rw [HDig.out.2]; omega)
                  omega)
                by_cases hK1 : K = 1
                · subst hK1
                  have HRR := Lib.hid (show R = (0, 5) by rw [HR.out, form_none hk3 HST.out (by rw [HPS.out, if_neg (by omega)]; rfl)]; rfl)
                  clear HVL
                  generalize valD (T.extract 0 1).data.toList = V at *
                  go_wp2_with fail
                  go_ret2
                  exact ⟨by rw [HRR.out]; rfl, HB2.out⟩
                · obtain rfl : K = 2 := by omega
                  generalize hV : valD (T.extract 0 2).data.toList = V at *
                  have hV9 := HVL.out
                  have HV := Lib.hid hV
                  clear hV HVL
                  by_cases h59 : V ≤ 59
                  · have hi59 : ¬ (59 < (V : Int)) := by omega
                    have HO1 := Lib.hid (show stepR k (q.data.toList, x, y, z) = some ((T.extract 2 T.size).data.toList, upd k x y z V) by rw [HPS.out, if_pos (by simp [h59])]; rfl)
                    have HU := Lib.hid (upd_set k x y z V hk12)
                    have HL := Lib.hid (upd_le (k := k) hx hy hz h59)
                    obtain ⟨v, hv⟩ : ∃ v, (#[.int .i64 (x : Int), .int .i64 (y : Int), .int .i64 (z : Int)] : Array Value)[k]? = some v := ⟨_, Array.getElem?_eq_getElem (by simpa using hk3)⟩
                    have hcP : w2.cell? ⟨wo.heap.size, k, none⟩ = some v := HP2.out.cell_ hv
                    have hfP := HP2.out.frozen k
                    clear hv h59
                    go_wp2_with fail
                    go_roundw
                    case rel =>
                      refine ⟨k + 1, T.extract 2 T.size, (upd k x y z V).1, (upd k x y z V).2.1, (upd k x y z V).2.2, by omega, by go_num, size_part _ _ _ _ hT, st_next HST.out HO1.out, HQ2.out.far (by show w.heap.size ≠ wo.heap.size; omega) _, ?_, HB2.out.setCell (by show w.heap.size ≤ wo.heap.size; omega) _, HL.out⟩
                      rw [← HU.out]
                      exact HP2.out.set_ k _
                    case measure => simp [intOf]; omega
                  · have hi59 : 59 < (V : Int) := by omega
                    have HRR := Lib.hid (show R = (0, 5) by rw [HR.out, form_none hk3 HST.out (by rw [HPS.out, if_neg (fun h => h59 h.2.2)]; rfl)]; rfl)
                    clear h59
                    go_wp2_with fail
                    go_ret2
                    exact ⟨by rw [HRR.out]; rfl, HB2.out⟩
            · have h58b : ((a.toNat : Int) != 58) = true := by rw [bne_iff_ne]; exact fun e => h58 (UInt8.toNat_inj.1 (by show a.toNat = 58; omega))
              have HRR := Lib.hid (show R = (0, 5) by rw [HR.out, form_none hk3 HST.out (by rw [HPS.out, if_neg (fun h => h58 h.1)]; rfl)]; rfl)
              clear h58
              have HB := Lib.hid hb
              clear hb
              go_wp2_with fail
              go_ret2
              exact ⟨by rw [HRR.out]; rfl, HB.out⟩
      case rest =>
        obtain ⟨rfl, rfl, rfl, q, x, y, z, hst, hQ, hP, hb, hx, hy, hz⟩ := hcut
        have hU2 := hU.below hb
        obtain ⟨u0, u1, u2⟩ := hU2
        have hcq : wc.cell? ⟨w.heap.size, 0, none⟩ = some (.string q) := hQ.cell_ rfl
        obtain ⟨p0, p1, p2, _, _, _⟩ := hP.three
        have HF := Lib.hid (show formR r.data.toList = if q.data.toList = [] then some (3600 * x + 60 * y + z) else none by rw [formR, hst]; rfl)
        have HB := Lib.hid hb
        clear hst hQ hP hb hU hE
        have i0 : ∀ w, (Instr.index 128 (.agg #[.int .i64 (x : Int), .int .i64 (y : Int), .int .i64 (z : Int)]) (.int .i64 0)).run Tryz.prog w = .ok (.int .i64 (x : Int)) w := fun _ => by kernel_rfl
        have i1 : ∀ w, (Instr.index 128 (.agg #[.int .i64 (x : Int), .int .i64 (y : Int), .int .i64 (z : Int)]) (.int .i64 1)).run Tryz.prog w = .ok (.int .i64 (y : Int)) w := fun _ => by kernel_rfl
        have i2 : ∀ w, (Instr.index 128 (.agg #[.int .i64 (x : Int), .int .i64 (y : Int), .int .i64 (z : Int)]) (.int .i64 2)).run Tryz.prog w = .ok (.int .i64 (z : Int)) w := fun _ => by kernel_rfl
        by_cases hq0 : q.size = 0
        · obtain rfl := empty_of hq0
          have HFin := Lib.hid (show R = endR mn (some (3600 * x + 60 * y + z)) by rw [HR.out, HF.out]; rfl)
          clear HF HR hq0
          cases mn with
          | false =>
            by_cases hX : 604799 < (x : Int) * 3600 + (y : Int) * 60 + (z : Int)
            all_goals
              go_wp2_with fail
              refine wp_loop_rounds 4 ?_
              rw [rounds_succ]
              go_wp2_with fail
              rw [rounds_succ]
              go_wp2_with fail
              rw [rounds_succ]
              go_wp2_with fail
              rw [rounds_succ]
              go_wp2_with fail
              go_ret2
              refine ⟨?_, HB.out⟩
              rw [HFin.out]
              simp only [endR, Bool.false_eq_true, false_and, if_false]
              first | (rw [if_pos (by omega)]; rfl) | (rw [if_neg (by omega)]; exact ret2i (by omega) rfl)
          | true =>
            by_cases h0 : (x : Int) * 3600 + (y : Int) * 60 + (z : Int) = 0
            · have h0b : ((x : Int) * 3600 + (y : Int) * 60 + (z : Int) == 0) = true := beq_iff_eq.2 h0
              have hX0 : 3600 * x + 60 * y + z = 0 := by omega
              have HX0 := Lib.hid hX0
              clear h0 hX0
              go_wp2_with fail
              refine wp_loop_rounds 4 ?_
              rw [rounds_succ]
              go_wp2_with fail
              rw [rounds_succ]
              go_wp2_with fail
              rw [rounds_succ]
              go_wp2_with fail
              rw [rounds_succ]
              go_wp2_with fail
              go_ret2
              refine ⟨?_, HB.out⟩
              rw [HFin.out, HX0.out]
              rfl
            · have h0b : ((x : Int) * 3600 + (y : Int) * 60 + (z : Int) == 0) = false := beq_eq_false_iff_ne.2 h0
              have hX0 : 0 < 3600 * x + 60 * y + z := by omega
              by_cases hX : 604799 < (x : Int) * 3600 + (y : Int) * 60 + (z : Int)
              all_goals
                clear h0
                go_wp2_with fail
                refine wp_loop_rounds 4 ?_
                rw [rounds_succ]
                go_wp2_with fail
                rw [rounds_succ]
                go_wp2_with fail
                rw [rounds_succ]
                go_wp2_with fail
                rw [rounds_succ]
                go_wp2_with fail
                go_ret2
                refine ⟨?_, HB.out⟩
                rw [HFin.out]
                simp only [endR, true_and, if_true]
                first | (rw [if_neg (by omega), if_pos (by omega)]; rfl) | (rw [if_neg (by omega), if_neg (by omega)]; exact ret2i (by omega) rfl)
        · have hne := list_empty hq0
          have HFin := Lib.hid (show R = (0, 5) by rw [HR.out, HF.out, if_neg (fun h => hq0 (by have := congrArg List.length h; simpa using this))]; rfl)
          clear HF HR hq0
          go_wp2_with fail
          refine wp_loop_rounds 4 ?_
          rw [rounds_succ]
          go_wp2_with fail
          rw [rounds_succ]
          go_wp2_with fail
          rw [rounds_succ]
          go_wp2_with fail
          rw [rounds_succ]
          go_wp2_with fail
          go_ret2
          exact ⟨by rw [HFin.out]; rfl, HB.out⟩
end Go.Proofs.YtbdmieelokmhiaaGreatDoor
