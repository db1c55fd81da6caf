/-
  The walk of analemmalaw41.BigendParts.
-/
import Derived.Test.YtaghbkmommdmgaaBigW
import Derived.Test.YtaghbkmommdmgaaBigPlainB
namespace Go.Proofs.Ytaghbkmommdmgaa
open Go.RowKit

set_option maxRecDepth 100000 in
set_option maxHeartbeats 1000000 in
theorem parts_walk (x : Int) (w : World) (hx : -9223372036854775808 ≤ x ∧ x ≤ 9223372036854775807) :
    Calls Try.prog 5 #[.int .i64 x] w fun e w' => e = .returned (.bool true) ∧ Below w.heap.size w w' := by
  have HP := Lib.hid (put8 [] hx)
  have HI := Lib.hid (high4 hx)
  obtain ⟨y, hy, hyx, hyb⟩ := low4 x
  have HL := Lib.hid hy
  clear hy
  have hyx' : IntKind.u32.wrap y = IntKind.u32.wrap x := by rw [IntKind.wrap_u32, IntKind.wrap_u32]; exact hyx
  clear hyx
  go_enter Try.func5, Try.ntmps5
  go_wp2_with fail
  refine (put_any _ _ _ _ _ _ _ (rd_none w) (by omega)).mono ?_
  rintro e w1 ⟨v, rfl, hown, hb1⟩
  rw [HP.out] at hown ⊢
  obtain ⟨A, c, rfl, hc, hr⟩ := own_slice hown
  simp only [List.nil_append, be_length] at hr hown hc ⊢
  have HR := Lib.hid (show Rd w1 A 8 (be 8 x) from hr)
  clear hown hr
  go_wp2_with fail
  refine (get_any _ _ _ _ _ _ _ HR.out (by omega) hc (be_bd _ _)).mono ?_
  rintro e w2 ⟨rfl, hb2⟩
  rw [HI.out]
  have HR2 := Lib.hid (Rd.below HR.out hb2)
  have hb02 := hb1.trans (hb2.mono hb1.size)
  clear hb2 hb1
  go_wp2_with fail
  refine (get_any _ _ _ _ _ _ _ HR2.out (by omega) hc (be_bd _ _)).mono ?_
  rintro e w3 ⟨rfl, hb3⟩
  rw [HL.out]
  have HR3 := Lib.hid (Rd.below HR2.out hb3)
  have hb03 := hb02.trans (hb3.mono hb02.size)
  clear hb3 hb02
  go_wp2_with fail
  go_loopw [55] (fun i wr => ∃ k : Nat, k ≤ 8 ∧ i = .int .i64 k ∧ Below w.heap.size w wr ∧ Rd wr A 8 (be 8 x)) (fun i _ => 8 - (intOf i).toNat)
  case atStart => exact ⟨0, by omega, rfl, hb03, HR3.out⟩
  case round =>
    clear hb03 HR HR2 HR3 HP HI HL hyx' hyb
    obtain ⟨k, hk, rfl, hb, hr⟩ := hrel
    have HR := Lib.hid hr
    clear hr
    by_cases hlt : k < 8
    · have hd : decide ((k : Int) < 8) = true := by simp; omega
      obtain ⟨h1, h2⟩ := one1 x k hlt
      have H1 := Lib.hid h1
      have H2 := Lib.hid h2
      have hbd := byteZ_bd x (7 - k)
      have hxb : IntKind.u8.wrap (x / 2 ^ (56 - 8 * (k : Int)).toNat) = byteZ x (7 - k) := by rw [IntKind.wrap_u8]; unfold byteZ; rw [show (8 * (7 - (k : Int))).toNat = (56 - 8 * (k : Int)).toNat by omega]
      have hsb : IntKind.u8.wrap (sgn8 (byteZ x (7 - k))) = byteZ x (7 - k) := by rw [IntKind.wrap_u8, sgn8]; split <;> omega
      clear h1 h2
      generalize byteZ x (7 - k) = b at *
      generalize sgn8 b = sb at *
      go_wp2_with fail
      refine (get_any _ _ _ _ _ _ _ HR.out (by omega) hc (be_bd _ _)).mono ?_
      rintro e w4 ⟨rfl, hb4⟩
      rw [H1.out]
      have HR4 := Lib.hid (Rd.below HR.out hb4)
      have hb04 := hb.trans (hb4.mono hb.size)
      clear hb4 hb
      go_wp2_with fail
      refine (bytes_any _ _ _ _ _ _ _ HR4.out (by omega) hc).mono ?_
      rintro e w5 ⟨v, rfl, hown5, hb5⟩
      rw [H2.out] at hown5 ⊢
      obtain ⟨g, cap, rfl, hcap, hg, hg', hcs⟩ := own_at hown5 (by simp)
      have hc0 : w5.cell? ⟨g, 0, none⟩ = some (.int .u8 b) := by simpa using hcs 0 (by simp)
      have HR5 := Lib.hid (Rd.below HR4.out hb5)
      have hb05 := hb04.trans (hb5.mono hb04.size)
      clear hb5 hb04 hcs hown5 HR HR4
      go_wp2_with fail
      have q1 : IntKind.i64.wrap (8 * (k : Int)) = 8 * (k : Int) := IntWalk.i64_in _ (by omega)
      have q2 : IntKind.i64.wrap (56 - 8 * (k : Int)) = 56 - 8 * (k : Int) := IntWalk.i64_in _ (by omega)
      have q3 : 0 ≤ 56 - 8 * (k : Int) := by omega
      have q4 : 56 - 8 * (k : Int) ≤ 64 := by omega
      go_quiet (fail)
      clear q1 q2 q3 q4
      go_wp2_with fail
      go_roundw
      case rel => exact ⟨k + 1, by omega, by go_num, below_drewN hb05 _, HR5.out⟩
      case measure => simp [intOf]; omega
    · have hd : decide ((k : Int) < 8) = false := by simp; omega
      go_wp2_with fail
      refine (works_any _).mono ?_
      rintro e w6 ⟨rfl, hb6⟩
      have hb7 := hb.trans (hb6.mono hb.size)
      clear hb6 hb
      go_wp2_with fail
      go_ret
      exact ⟨rfl, hb7⟩
end Go.Proofs.Ytaghbkmommdmgaa
