/-
  dayspec.compared, dayspec.Parse: what the calls return.
-/
import Derived.Test.YtbdmieelokmhiaaGreatDoorDayNum
import Derived.Test.YtbdmieelokmhiaaGreatDoorStrFold
import Derived.Test.YtbdmieelokmhiaaGreatDoorStrAny
import Derived.Test.YtbdmieelokmhiaaGreatDoorStrPrefix
import Derived.Test.YtbdmieelokmhiaaGreatDoorStrs
import Derived.Deep.QuietTactic
import Derived.BigQuiet
import Derived.Handy
set_option linter.unusedVariables false
namespace Go.Proofs.YtbdmieelokmhiaaGreatDoor
open Go.RowKit

/-- a day form and an error out of the answers of week and number -/
def joinR (k : Int) (a b : Int × Int) : (Int × Int × Int) × Int :=
  if a.2 = 0 then (if b.2 = 0 then ((k, a.1, b.1), 0) else ((0, 0, 0), b.2)) else ((0, 0, 0), a.2)
def comparedR (s : List UInt8) (i : Nat) : (Int × Int × Int) × Int := joinR (if s[i]? = some 60 then 4 else 3) (weekR (s.take i)) (numR (s.drop (i + 2)))
/-- what a string is read as, and the error -/
def parseR (s : List UInt8) : (Int × Int × Int) × Int :=
  if 0 ≤ Lib.indexAny s signs ∧ Lib.hasPrefix (s.drop ((Lib.indexAny s signs).toNat + 1)) [61] = true then comparedR s (Lib.indexAny s signs).toNat
  else if 4 ≤ s.length ∧ Lib.equalFold (s.take 4) lastL = true then joinR 2 (weekR (s.drop 4)) (0, 0)
  else joinR 1 (0, 0) (numR s)

def dayV (d : Int × Int × Int) : Value := .agg #[.int .i64 d.1, .int .i64 d.2.1, .int .i64 d.2.2]

theorem weekR_err (s : List UInt8) : (weekR s).2 = 0 ∨ (weekR s).2 = 8 := by
  unfold weekR; split <;> simp
theorem numR_err (s : List UInt8) : (numR s).2 = 0 ∨ (numR s).2 = 5 ∨ (numR s).2 = 3 := by
  unfold numR
  split
  · split <;> simp
  · split
    · split <;> simp
    · simp
  · simp

set_option maxRecDepth 100000 in
set_option maxHeartbeats 1000000 in
theorem compared_any (s : ByteArray) (i : Nat) (hi : i + 1 < s.size) (h61 : s.data.toList[i + 1]? = some 61) (hs : s.size ≤ 1048576) (w : World) (hW : Weeks w) :
    Calls Tryz.prog 99 #[.string s, .int .i64 (i : Int)] w fun e w' => e = .returned (.tuple #[dayV (comparedR s.data.toList i).1, .int .i64 (comparedR s.data.toList i).2]) ∧ Below w.heap.size w w' := by
  have i0 : (0 : Int) ≤ (i : Int) := by omega
  have i1 : (i : Int) < (s.size : Int) := by omega
  have i2 : (0 : Int) ≤ (i : Int) + 1 := by omega
  have i3 : (i : Int) + 1 < (s.size : Int) := by omega
  have hwr : IntKind.i64.wrap ((i : Int) + 1) = (i : Int) + 1 := IntWalk.i64_in _ (by omega)
  have htn : ((i : Int) + 1).toNat = i + 1 := by omega
  have g1 : ∀ h, (s[i + 1]'h).toNat = 61 := fun h => by
    have e := Lib.data_getElem? s (i + 1) h
    rw [h61] at e
    have e2 : s[i + 1] = 61 := (Option.some.inj e).symm
    rw [e2]; rfl
  have HW := Lib.hid (hW.below (((Below.refl _ w).alloc (Nat.le_refl _) (.cells #[.int .i64 0, .int .i64 0, .int .i64 0] 25)).alloc (by simp) (.cells #[.int .i64 3, .int .i64 0, .int .i64 0] 25)))
  obtain ⟨c, hc⟩ : ∃ c, s.data.toList[i]? = some c := ⟨_, Lib.data_getElem? s i (by omega)⟩
  have g0 : ∀ h, (s[i]'h).toNat = c.toNat := fun h => by
    have e := Lib.data_getElem? s i h
    rw [hc] at e
    rw [Option.some.inj e]
  have HR := Lib.hid (show comparedR s.data.toList i = joinR (if c = 60 then 4 else 3) (weekR (s.data.toList.take i)) (numR (s.data.toList.drop (i + 2))) by rw [comparedR, hc]; simp)
  clear hc HW
  have hB1 : ∀ (nq : Nat) (k4 : Int), Below w.heap.size w ((((w.alloc (.cells #[.int .i64 0, .int .i64 0, .int .i64 0] 25)).alloc (.cells #[.int .i64 3, .int .i64 0, .int .i64 0] 25)).drewN nq).setCell ⟨w.heap.size + 1, 0, none⟩ (.int .i64 k4)) := fun nq k4 =>
    (below_drawn (((Below.refl _ w).alloc (Nat.le_refl _) _).alloc (by simp) _) nq).setCell (by show w.heap.size ≤ w.heap.size + 1; omega) _
  have hB2 : ∀ (nq : Nat), Below w.heap.size w (((w.alloc (.cells #[.int .i64 0, .int .i64 0, .int .i64 0] 25)).alloc (.cells #[.int .i64 3, .int .i64 0, .int .i64 0] 25)).drewN nq) := fun nq =>
    below_drawn (((Below.refl _ w).alloc (Nat.le_refl _) _).alloc (by simp) _) nq
  have HB := Lib.hid (And.intro hB1 hB2)
  clear hB1 hB2
  by_cases h60 : c = 60
  · subst h60
    have g0 : ∀ h, (s[i]'h).toNat = 60 := g0
    go_enter Tryz.func99, Tryz.ntmps99
    go_wp2_with fail
    go_quiet (fail)
    go_wp2_with fail
    refine (dweek_any _ _ (hW.below (HB.out.1 nq 4)) (size_part s 0 i _ hs)).mono ?_
    rintro e w1 ⟨rfl, hb1⟩
    have b4 : Blk w1 w.heap.size 25 #[.int .i64 0, .int .i64 0, .int .i64 0] := ((((Blk.new' w _ _ rfl).alloc _).drewN _).far (by simp) _).below hb1 (by simp; omega)
    have b6 : Blk w1 (w.heap.size + 1) 25 #[.int .i64 4, .int .i64 0, .int .i64 0] := ((((Blk.new' _ _ _ (by simp)).drewN _).set_ 0 _)).below hb1 (by simp)
    have HBw := Lib.hid ((HB.out.1 nq 4).trans (hb1.mono (HB.out.1 nq 4).size))
    have hz : w.heap.size + 1 < w1.heap.size := b6.lt
    obtain ⟨p0, p1, p2, f0, f1, f2⟩ := b6.three
    obtain ⟨r0, r1, r2, q0, q1, q2⟩ := b4.three
    rw [list_upto]
    have hwe := weekR_err (s.data.toList.take i)
    generalize weekR (s.data.toList.take i) = A at *
    obtain ⟨wi, we⟩ := A
    have HP := Lib.hid (And.intro b4 b6)
    clear hb1 hW b4 b6 HB
    simp only at hwe
    rcases hwe with rfl | rfl
    · go_wp2_with fail
      refine (number_any _ _).mono ?_
      rintro e w2 ⟨rfl, hb2⟩
      have b4 := (HP.out.1.far (p := ⟨w.heap.size + 1, 1, none⟩) (by simp) (.int .i64 wi)).below hb2 (by simp; omega)
      have b6 := (HP.out.2.set_ 1 (.int .i64 wi)).below hb2 (by simp; omega)
      have HBv := Lib.hid ((HBw.out.setCell (p := ⟨w.heap.size + 1, 1, none⟩) (by show w.heap.size ≤ w.heap.size + 1; omega) (.int .i64 wi)).trans (hb2.mono (by simp; omega)))
      have hz2 : w.heap.size + 1 < w2.heap.size := b6.lt
      clear hz p0 p1 p2 f0 f1 f2 r0 r1 r2 q0 q1 q2 hb2 HP HBw
      obtain ⟨p0, p1, p2, f0, f1, f2⟩ := b6.three
      obtain ⟨r0, r1, r2, q0, q1, q2⟩ := b4.three
      clear b4 b6
      rw [list_from]
      have hne := numR_err (s.data.toList.drop (i + 2))
      generalize numR (s.data.toList.drop (i + 2)) = B at *
      obtain ⟨ni, ne⟩ := B
      simp only at hne
      rcases hne with rfl | rfl | rfl
      all_goals
        go_wp2_with fail
        refine bodyPost_ret (by simp [results, Tryz.results99, go_sem, r0, r1, r2]; rfl) rfl ⟨?_, ?_⟩
        · rw [HR.out]; rfl
        · have hBv := HBv.out; go_grown
    · go_wp2_with fail
      refine bodyPost_ret (by simp [results, Tryz.results99, go_sem, r0, r1, r2]; rfl) rfl ⟨?_, ?_⟩
      · rw [HR.out]; rfl
      · have hBw := HBw.out; go_grown
  · have h60b : ((c.toNat : Int) == 60) = false := beq_eq_false_iff_ne.2 (fun e => h60 (UInt8.toNat_inj.1 (by show c.toNat = 60; omega)))
    rw [if_neg h60] at HR
    go_enter Tryz.func99, Tryz.ntmps99
    go_wp2_with fail
    go_quiet (fail)
    go_wp2_with fail
    refine (dweek_any _ _ (hW.below (HB.out.2 nq)) (size_part s 0 i _ hs)).mono ?_
    rintro e w1 ⟨rfl, hb1⟩
    have b4 : Blk w1 w.heap.size 25 #[.int .i64 0, .int .i64 0, .int .i64 0] := ((((Blk.new' w _ _ rfl).alloc _).drewN _)).below hb1 (by simp; omega)
    have b6 : Blk w1 (w.heap.size + 1) 25 #[.int .i64 3, .int .i64 0, .int .i64 0] := ((((Blk.new' _ _ _ (by simp)).drewN _))).below hb1 (by simp)
    have HBw := Lib.hid ((HB.out.2 nq).trans (hb1.mono (HB.out.2 nq).size))
    have hz : w.heap.size + 1 < w1.heap.size := b6.lt
    obtain ⟨p0, p1, p2, f0, f1, f2⟩ := b6.three
    obtain ⟨r0, r1, r2, q0, q1, q2⟩ := b4.three
    rw [list_upto]
    have hwe := weekR_err (s.data.toList.take i)
    generalize weekR (s.data.toList.take i) = A at *
    obtain ⟨wi, we⟩ := A
    have HP := Lib.hid (And.intro b4 b6)
    clear hb1 hW b4 b6 HB
    simp only at hwe
    rcases hwe with rfl | rfl
    · go_wp2_with fail
      refine (number_any _ _).mono ?_
      rintro e w2 ⟨rfl, hb2⟩
      have b4 := (HP.out.1.far (p := ⟨w.heap.size + 1, 1, none⟩) (by simp) (.int .i64 wi)).below hb2 (by simp; omega)
      have b6 := (HP.out.2.set_ 1 (.int .i64 wi)).below hb2 (by simp; omega)
      have HBv := Lib.hid ((HBw.out.setCell (p := ⟨w.heap.size + 1, 1, none⟩) (by show w.heap.size ≤ w.heap.size + 1; omega) (.int .i64 wi)).trans (hb2.mono (by simp; omega)))
      have hz2 : w.heap.size + 1 < w2.heap.size := b6.lt
      clear hz p0 p1 p2 f0 f1 f2 r0 r1 r2 q0 q1 q2 hb2 HP HBw
      obtain ⟨p0, p1, p2, f0, f1, f2⟩ := b6.three
      obtain ⟨r0, r1, r2, q0, q1, q2⟩ := b4.three
      clear b4 b6
      rw [list_from]
      have hne := numR_err (s.data.toList.drop (i + 2))
      generalize numR (s.data.toList.drop (i + 2)) = B at *
      obtain ⟨ni, ne⟩ := B
      simp only at hne
      rcases hne with rfl | rfl | rfl
      all_goals
        go_wp2_with fail
        refine bodyPost_ret (by simp [results, Tryz.results99, go_sem, r0, r1, r2]; rfl) rfl ⟨?_, ?_⟩
        · rw [HR.out]; rfl
        · have hBv := HBv.out; go_grown
    · go_wp2_with fail
      refine bodyPost_ret (by simp [results, Tryz.results99, go_sem, r0, r1, r2]; rfl) rfl ⟨?_, ?_⟩
      · rw [HR.out]; rfl
      · have hBw := HBw.out; go_grown

theorem indexAny_lt : ∀ (s chars : List UInt8), Lib.indexAny s chars < s.length
  | [], _ => by simp [Lib.indexAny]
  | b :: l, chars => by
    have ih := indexAny_lt l chars
    unfold Lib.indexAny
    split
    · simp
    · split
      · simp; omega
      · simp; omega

theorem pre_one {l : List UInt8} (h : Lib.hasPrefix l [61] = true) : l[0]? = some 61 := by
  match l, h with
  | a :: l, h =>
    simp [Lib.hasPrefix, List.isPrefixOf] at h
    simp [h]

theorem ext4 (s : ByteArray) (h : 4 ≤ s.size) : ∃ a b c d, s.extract 0 4 = ⟨#[a, b, c, d]⟩ ∧ s.data.toList.take 4 = [a, b, c, d] := by
  obtain ⟨⟨l⟩⟩ := s
  match l, h with
  | a :: b :: c :: d :: l, _ => exact ⟨a, b, c, d, by apply ByteArray.ext; simp, by simp⟩

set_option maxRecDepth 100000 in
set_option maxHeartbeats 2000000 in
theorem parse_any (s : ByteArray) (hs : s.size ≤ 1048576) (w : World) (hW : Weeks w) (hF : Folds w) :
    Calls Tryz.prog 55 #[.string s] w fun e w' => e = .returned (.tuple #[dayV (parseR s.data.toList).1, .int .i64 (parseR s.data.toList).2]) ∧ Below w.heap.size w w' := by
  have hlt := indexAny_lt s.data.toList signs
  have hge := Lib.indexAny_ge signs s.data.toList
  rw [size_data] at hlt
  have HI := Lib.hid (indexAny_any s (w.alloc (.cells #[.int .i64 0, .int .i64 0, .int .i64 0] 25)) (by omega))
  have hB0 : Below w.heap.size w (w.alloc (.cells #[.int .i64 0, .int .i64 0, .int .i64 0] 25)) := (Below.refl _ w).alloc (Nat.le_refl _) _
  by_cases hA : 0 ≤ Lib.indexAny s.data.toList signs ∧ Lib.hasPrefix (s.data.toList.drop ((Lib.indexAny s.data.toList signs).toNat + 1)) [61] = true
  · have HP := Lib.hid (show parseR s.data.toList = comparedR s.data.toList (Lib.indexAny s.data.toList signs).toNat from if_pos hA)
    obtain ⟨h0, hp⟩ := hA
    obtain ⟨i, hi⟩ := Int.eq_ofNat_of_zero_le h0
    rw [hi] at HI HP hp hlt
    rw [Int.toNat_natCast] at HP hp
    have h61 : s.data.toList[i + 1]? = some 61 := by
      have := pre_one hp
      rwa [List.getElem?_drop] at this
    have hi1 : i + 1 < s.size := by
      rw [← size_data]
      exact (List.getElem?_eq_some_iff.1 h61).1
    have HH := Lib.hid hp
    clear hp hi h0 hge
    go_enter Tryz.func55, Tryz.ntmps55
    go_wp2_with fail
    refine HI.out.mono ?_
    rintro e w1 ⟨rfl, hb1⟩
    have b2 : Blk w1 w.heap.size 25 #[.int .i64 0, .int .i64 0, .int .i64 0] := (Blk.new' w _ _ rfl).below hb1 (by simp)
    have HB1 := Lib.hid (hB0.trans (hb1.mono hB0.size))
    have HB2 := Lib.hid b2
    clear hb1 b2 hB0 HI
    go_wp2_with fail
    refine (prefix_any _ _ _).mono ?_
    rintro e w2 ⟨rfl, rfl⟩
    rw [list_from, HH.out]
    go_wp2_with fail
    refine (compared_any s i hi1 h61 hs _ (hW.below HB1.out)).mono ?_
    rintro e w2 ⟨rfl, hb2⟩
    have b2 := HB2.out.below hb2 HB2.out.lt
    obtain ⟨r0, r1, r2, q0, q1, q2⟩ := b2.three
    have HBv := Lib.hid (HB1.out.trans (hb2.mono HB1.out.size))
    generalize comparedR s.data.toList i = R at *
    obtain ⟨⟨a, b, c⟩, d⟩ := R
    unfold dayV
    clear hb2 b2 hW hF HB2 HB1
    go_wp2_with fail
    refine bodyPost_ret (by simp [results, Tryz.results55, go_sem, r0, r1, r2]; rfl) rfl ⟨by rw [HP.out]; rfl, ?_⟩
    have hBv := HBv.out
    go_grown
  · have HP := Lib.hid (show parseR s.data.toList = if 4 ≤ s.data.toList.length ∧ Lib.equalFold (s.data.toList.take 4) lastL = true then joinR 2 (weekR (s.data.toList.drop 4)) (0, 0) else joinR 1 (0, 0) (numR s.data.toList) from if_neg hA)
    rw [size_data] at HP
    go_enter Tryz.func55, Tryz.ntmps55
    have HA := Lib.hid hA
    clear hA
    generalize hi : Lib.indexAny s.data.toList signs = i at *
    clear hi
    go_wp2_with fail
    refine HI.out.mono ?_
    rintro e w1 ⟨rfl, hb1⟩
    have b2 : Blk w1 w.heap.size 25 #[.int .i64 0, .int .i64 0, .int .i64 0] := (Blk.new' w _ _ rfl).below hb1 (by simp)
    have HB1 := Lib.hid (hB0.trans (hb1.mono hB0.size))
    have HB2 := Lib.hid b2
    clear hb1 b2 hB0 HI
    by_cases hi : 0 ≤ i
    · obtain ⟨i, rfl⟩ := Int.eq_ofNat_of_zero_le hi
      rw [Int.toNat_natCast] at HA
      have HN := Lib.hid (show Lib.hasPrefix (s.data.toList.drop (i + 1)) [61] = false from Bool.eq_false_iff.2 fun h => HA.out ⟨hi, h⟩)
      clear HA
      go_wp2_with fail
      refine (prefix_any _ _ _).mono ?_
      rintro e w2 ⟨rfl, rfl⟩
      rw [list_from, HN.out]
      by_cases h4 : 4 ≤ s.size
      · obtain ⟨a, b, c, d, he, ht⟩ := ext4 s h4
        rw [ht] at HP
        have HE := Lib.hid he
        clear he ht
        have h4i : (4 : Int) ≤ (s.size : Int) := by omega
        go_wp2_with fail
        rw [HE.out]
        refine (fold_any a b c d _ (hF.below HB1.out)).mono ?_
        rintro e w2 ⟨rfl, hb2⟩
        have b2 := HB2.out.below hb2 HB2.out.lt
        have HBv := Lib.hid (HB1.out.trans (hb2.mono HB1.out.size))
        have HBb := Lib.hid b2
        clear hb2 b2 hF HB2 HB1
        cases hfo : Lib.equalFold [a, b, c, d] lastL
        · rw [hfo, if_neg (by simp)] at HP
          clear hfo
          go_wp2_with fail
          refine (number_any _ _).mono ?_
          rintro e w3 ⟨rfl, hb3⟩
          have b2 := HBb.out.below hb3 HBb.out.lt
          have HBu := Lib.hid (HBv.out.trans (hb3.mono HBv.out.size))
          obtain ⟨r0, r1, r2, q0, q1, q2⟩ := b2.three
          have hne := numR_err s.data.toList
          generalize numR s.data.toList = B at *
          obtain ⟨ni, ne⟩ := B
          clear hb3 b2 HBv HBb hW
          simp only at hne
          rcases hne with rfl | rfl | rfl
          all_goals
            go_wp2_with fail
            refine bodyPost_ret (by simp [results, Tryz.results55, go_sem, r0, r1, r2]; rfl) rfl ⟨?_, ?_⟩
            · rw [HP.out]; rfl
            · have hBu := HBu.out; go_grown
        · rw [hfo, if_pos ⟨h4, rfl⟩] at HP
          clear hfo
          go_wp2_with fail
          refine (dweek_any _ _ (hW.below HBv.out) (size_part s 4 s.size _ hs)).mono ?_
          rintro e w3 ⟨rfl, hb3⟩
          have b2 := HBb.out.below hb3 HBb.out.lt
          have HBu := Lib.hid (HBv.out.trans (hb3.mono HBv.out.size))
          obtain ⟨r0, r1, r2, q0, q1, q2⟩ := b2.three
          rw [list_from]
          have hwe := weekR_err (s.data.toList.drop 4)
          generalize weekR (s.data.toList.drop 4) = A at *
          obtain ⟨wi, we⟩ := A
          clear hb3 b2 HBv HBb hW
          simp only at hwe
          rcases hwe with rfl | rfl
          all_goals
            go_wp2_with fail
            refine bodyPost_ret (by simp [results, Tryz.results55, go_sem, r0, r1, r2]; rfl) rfl ⟨?_, ?_⟩
            · rw [HP.out]; rfl
            · have hBu := HBu.out; go_grown
      · rw [if_neg (fun h => h4 h.1)] at HP
        have h4i : ¬ (4 : Int) ≤ (s.size : Int) := by omega
        have HBv := HB1
        have HBb := HB2
        clear HB1 HB2
        go_wp2_with fail
        refine (number_any _ _).mono ?_
        rintro e w3 ⟨rfl, hb3⟩
        have b2 := HBb.out.below hb3 HBb.out.lt
        have HBu := Lib.hid (HBv.out.trans (hb3.mono HBv.out.size))
        obtain ⟨r0, r1, r2, q0, q1, q2⟩ := b2.three
        have hne := numR_err s.data.toList
        generalize numR s.data.toList = B at *
        obtain ⟨ni, ne⟩ := B
        clear hb3 b2 HBv HBb hW
        simp only at hne
        rcases hne with rfl | rfl | rfl
        all_goals
          go_wp2_with fail
          refine bodyPost_ret (by simp [results, Tryz.results55, go_sem, r0, r1, r2]; rfl) rfl ⟨?_, ?_⟩
          · rw [HP.out]; rfl
          · have hBu := HBu.out; go_grown
    · clear HA
      by_cases h4 : 4 ≤ s.size
      · obtain ⟨a, b, c, d, he, ht⟩ := ext4 s h4
        rw [ht] at HP
        have HE := Lib.hid he
        clear he ht
        have h4i : (4 : Int) ≤ (s.size : Int) := by omega
        go_wp2_with fail
        rw [HE.out]
        refine (fold_any a b c d _ (hF.below HB1.out)).mono ?_
        rintro e w2 ⟨rfl, hb2⟩
        have b2 := HB2.out.below hb2 HB2.out.lt
        have HBv := Lib.hid (HB1.out.trans (hb2.mono HB1.out.size))
        have HBb := Lib.hid b2
        clear hb2 b2 hF HB2 HB1
        cases hfo : Lib.equalFold [a, b, c, d] lastL
        · rw [hfo, if_neg (by simp)] at HP
          clear hfo
          go_wp2_with fail
          refine (number_any _ _).mono ?_
          rintro e w3 ⟨rfl, hb3⟩
          have b2 := HBb.out.below hb3 HBb.out.lt
          have HBu := Lib.hid (HBv.out.trans (hb3.mono HBv.out.size))
          obtain ⟨r0, r1, r2, q0, q1, q2⟩ := b2.three
          have hne := numR_err s.data.toList
          generalize numR s.data.toList = B at *
          obtain ⟨ni, ne⟩ := B
          clear hb3 b2 HBv HBb hW
          simp only at hne
          rcases hne with rfl | rfl | rfl
          all_goals
            go_wp2_with fail
            refine bodyPost_ret (by simp [results, Tryz.results55, go_sem, r0, r1, r2]; rfl) rfl ⟨?_, ?_⟩
            · rw [HP.out]; rfl
            · have hBu := HBu.out; go_grown
        · rw [hfo, if_pos ⟨h4, rfl⟩] at HP
          clear hfo
          go_wp2_with fail
          refine (dweek_any _ _ (hW.below HBv.out) (size_part s 4 s.size _ hs)).mono ?_
          rintro e w3 ⟨rfl, hb3⟩
          have b2 := HBb.out.below hb3 HBb.out.lt
          have HBu := Lib.hid (HBv.out.trans (hb3.mono HBv.out.size))
          obtain ⟨r0, r1, r2, q0, q1, q2⟩ := b2.three
          rw [list_from]
          have hwe := weekR_err (s.data.toList.drop 4)
          generalize weekR (s.data.toList.drop 4) = A at *
          obtain ⟨wi, we⟩ := A
          clear hb3 b2 HBv HBb hW
          simp only at hwe
          rcases hwe with rfl | rfl
          all_goals
            go_wp2_with fail
            refine bodyPost_ret (by simp [results, Tryz.results55, go_sem, r0, r1, r2]; rfl) rfl ⟨?_, ?_⟩
            · rw [HP.out]; rfl
            · have hBu := HBu.out; go_grown
      · rw [if_neg (fun h => h4 h.1)] at HP
        have h4i : ¬ (4 : Int) ≤ (s.size : Int) := by omega
        have HBv := HB1
        have HBb := HB2
        clear HB1 HB2
        go_wp2_with fail
        refine (number_any _ _).mono ?_
        rintro e w3 ⟨rfl, hb3⟩
        have b2 := HBb.out.below hb3 HBb.out.lt
        have HBu := Lib.hid (HBv.out.trans (hb3.mono HBv.out.size))
        obtain ⟨r0, r1, r2, q0, q1, q2⟩ := b2.three
        have hne := numR_err s.data.toList
        generalize numR s.data.toList = B at *
        obtain ⟨ni, ne⟩ := B
        clear hb3 b2 HBv HBb hW
        simp only at hne
        rcases hne with rfl | rfl | rfl
        all_goals
          go_wp2_with fail
          refine bodyPost_ret (by simp [results, Tryz.results55, go_sem, r0, r1, r2]; rfl) rfl ⟨?_, ?_⟩
          · rw [HP.out]; rfl
          · have hBu := HBu.out; go_grown
end Go.Proofs.YtbdmieelokmhiaaGreatDoor
