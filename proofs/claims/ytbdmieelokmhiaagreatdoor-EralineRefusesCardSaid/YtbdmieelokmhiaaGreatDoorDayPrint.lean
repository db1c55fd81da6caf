/-
  dayspec.Print: what the call returns.
-/
import Derived.Test.YtbdmieelokmhiaaGreatDoorWordText
import Derived.Test.YtbdmieelokmhiaaGreatDoorDayCheck
import Derived.Test.YtbdmieelokmhiaaGreatDoorStrs
import Derived.Deep.RegionHeld3
set_option linter.unusedVariables false
namespace Go.Proofs.YtbdmieelokmhiaaGreatDoor
open Go.RowKit

/-- the string of a day form, and the error -/
def dayText (k wk d : Int) : List UInt8 :=
  if k = 1 then Lib.decDigits d.toNat else if k = 2 then [108, 97, 115, 116] ++ weekT wk else if k = 3 then weekT wk ++ [62, 61] ++ Lib.decDigits d.toNat else weekT wk ++ [60, 61] ++ Lib.decDigits d.toNat
def printR (k wk d : Int) : List UInt8 × Int := if rightDay k wk d = true then (dayText k wk d, 0) else ([], 2)

theorem right_bd {k wk d : Int} (h : rightDay k wk d = true) : 1 ≤ k ∧ k ≤ 4 ∧ 0 ≤ wk ∧ wk ≤ 6 ∧ 0 ≤ d ∧ d ≤ 31 := by
  simp [rightDay] at h
  omega

theorem digits_len (d : Int) (h0 : 0 ≤ d) (h1 : d ≤ 31) : (Lib.decDigits d.toNat).length ≤ 2 := by
  have h : ∀ n : Fin 32, (Lib.decDigits n.val).length ≤ 2 := by decide +kernel
  exact h ⟨d.toNat, by omega⟩
theorem weekT_len (i : Int) : (weekT i).length ≤ 3 := by
  by_cases hi : 0 ≤ i ∧ i < 7
  · obtain ⟨n, rfl⟩ := Int.eq_ofNat_of_zero_le hi.1
    obtain ⟨a, b, c, l, hl, ha, hn, ht⟩ := weekL_at n (by omega)
    rw [ht]; simp
  · rw [weekT, if_neg hi]; simp

theorem itoa_day (d : Int) (w : World) (h0 : 0 ≤ d) (h1 : d < 100) :
    Calls Tryz.prog 95 #[.int .i64 d] w fun e w' => e = .returned (.string ⟨(Lib.decDigits d.toNat).toArray⟩) ∧ w' = w := by
  obtain ⟨n, rfl⟩ := Int.eq_ofNat_of_zero_le h0
  exact Any.strconv_Itoa_small Tryz.lays171 n (by omega) w

set_option maxRecDepth 100000 in
set_option maxHeartbeats 1000000 in
theorem print_any (k wk d : Int) (w : World) (hK : Kinds w) (hW : Weeks w) :
    Calls Tryz.prog 121 #[.agg #[.int .i64 k, .int .i64 wk, .int .i64 d]] w fun e w' => e = .returned (.tuple #[.string ⟨(printR k wk d).1.toArray⟩, .int .i64 (printR k wk d).2]) ∧ Below w.heap.size w w' := by
  have hB0 : Below w.heap.size w (w.alloc (.cells #[.int .i64 k, .int .i64 wk, .int .i64 d] 25)) := (Below.refl _ _).alloc (Nat.le_refl _) _
  have HC := Lib.hid (check_any k wk d _ (hK.below hB0))
  have HW1 := Lib.hid (hW.below hB0)
  by_cases hr : rightDay k wk d = true
  · have HR := Lib.hid (show printR k wk d = (dayText k wk d, 0) from if_pos hr)
    have HK := Lib.hid (show checkR k wk d = 0 from if_pos hr)
    obtain ⟨hk1, hk4, hw0, hw6, hd0, hd31⟩ := right_bd hr
    clear hr hK hW
    go_enter Tryz.func121, Tryz.ntmps121
    go_wp2_with fail
    refine HC.out.mono ?_
    rintro e w1 ⟨rfl, hb1⟩
    rw [HK.out]
    have b0 : Blk w1 w.heap.size 25 #[.int .i64 k, .int .i64 wk, .int .i64 d] := (Blk.new' _ _ _ rfl).below hb1 (by simp)
    have c0 : w1.cell? ⟨w.heap.size, 0, none⟩ = some (.int .i64 k) := b0.cell_ rfl
    have c1 : w1.cell? ⟨w.heap.size, 1, none⟩ = some (.int .i64 wk) := b0.cell_ rfl
    have c2 : w1.cell? ⟨w.heap.size, 2, none⟩ = some (.int .i64 d) := b0.cell_ rfl
    have hW1 : Weeks w1 := HW1.out.below hb1
    have HB1 := Lib.hid (hB0.trans (hb1.mono (by simp)))
    clear b0 hb1 hB0
    have hdl := digits_len d hd0 hd31
    have hwl := weekT_len wk
    go_wp2_with fail
    go_region_held3 (fun w' => w'.cell? ⟨w.heap.size, 0, none⟩ = some (.int .i64 k) ∧ w'.cell? ⟨w.heap.size, 1, none⟩ = some (.int .i64 wk) ∧ w'.cell? ⟨w.heap.size, 2, none⟩ = some (.int .i64 d)) (go_keep)
      (first | ((go_at_call 95; refine (itoa_day d _ hd0 (by omega)).mono ?_; rintro e w2 ⟨rfl, rfl⟩)) | ((go_at_call 151; refine (held3 (weekText_any wk _ (by exact hW1)) (by exact c0) (by exact c1) (by exact c2)).mono ?_; rintro e w2 ⟨rfl, hb2, e0, e1, e2⟩)))
    have hB := Lib.hid (HB1.out.trans ((Below.refl _ _).drew.trans hb2 |>.mono HB1.out.size))
    clear hb2 hW1 c0 c1 c2 e1 e2 HB1 HC HW1
    generalize hE1 : Lib.decDigits d.toNat = dl at *
    generalize hE2 : weekT wk = wl at *
    have HE1 := Lib.hid hE1
    have HE2 := Lib.hid hE2
    clear hE1 hE2
    rcases (by omega : k = 1 ∨ k = 2 ∨ k = 3 ∨ k = 4) with rfl | rfl | rfl | rfl
    all_goals
      go_wp2
      go_ret2
      refine ⟨?_, hB.out⟩
      rw [HR.out]
      simp [dayText, HE1.out, HE2.out, ba_append]
  · have HR := Lib.hid (show printR k wk d = ([], 2) from if_neg hr)
    have HK := Lib.hid (show checkR k wk d = 2 from if_neg hr)
    clear hr hK hW
    go_enter Tryz.func121, Tryz.ntmps121
    go_wp2_with fail
    refine HC.out.mono ?_
    rintro e w1 ⟨rfl, hb1⟩
    rw [HK.out]
    have HB1 := Lib.hid (hB0.trans (hb1.mono (by simp)))
    clear hb1 hB0
    go_wp2_with fail
    go_ret2
    exact ⟨by rw [HR.out]; rfl, HB1.out⟩
end Go.Proofs.YtbdmieelokmhiaaGreatDoor
