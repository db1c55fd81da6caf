/-
  Arguments of the laws of eras, opened: a draft.
-/
import Derived.Test.YtbdmieelokmhiaaGreatDoorEraArgs
import Derived.Test.YtbdmieelokmhiaaGreatDoorEraMade3
set_option linter.unusedVariables false
set_option maxRecDepth 100000
namespace Go.Proofs.YtbdmieelokmhiaaGreatDoor
open Go.ChangeShapes Go.WideShapes Go.ChangeAt Go.RowKit
section
variable {w : World} {r : Reach} {base : Nat} {v : Value}
theorem cEDraft : Tryz.prog.cellsOf 43 = 13 := by kernel_rfl
theorem tEDraft : Tryz.prog.cellTypes Tryz.prog.depth 43 = some [21, 21, 21, 5, 5, 5, 5, 39, 5, 5, 5, 5, 5] := by kernel_rfl
theorem open_edraft (hv : Value.okWide Tryz.prog w r base 43 v) : ∃ d : DraftE, v = .agg d.cells ∧ d.Ok := by
  obtain ⟨cs, rfl, hs, hc⟩ := struct_cells Tryz.underlying43 tEDraft hv
  obtain ⟨a0, a1, a2, a3, a4, a5, a6, a7, a8, a9, a10, a11, a12, rfl⟩ := thirteen (hs.trans cEDraft)
  obtain ⟨n0, rfl, h0⟩ := cell_int Tryz.underlying21 (hc 0 _ _ rfl rfl)
  obtain ⟨n1, rfl, h1⟩ := cell_int Tryz.underlying21 (hc 1 _ _ rfl rfl)
  obtain ⟨n2, rfl, h2⟩ := cell_int Tryz.underlying21 (hc 2 _ _ rfl rfl)
  obtain ⟨n3, rfl, h3⟩ := cell_int Tryz.underlying5 (hc 3 _ _ rfl rfl)
  obtain ⟨n4, rfl, h4⟩ := cell_int Tryz.underlying5 (hc 4 _ _ rfl rfl)
  obtain ⟨n5, rfl, h5⟩ := cell_int Tryz.underlying5 (hc 5 _ _ rfl rfl)
  obtain ⟨n6, rfl, h6⟩ := cell_int Tryz.underlying5 (hc 6 _ _ rfl rfl)
  obtain ⟨n7, rfl, h7⟩ := cell_int Tryz.underlying39 (hc 7 _ _ rfl rfl)
  obtain ⟨n8, rfl, h8⟩ := cell_int Tryz.underlying5 (hc 8 _ _ rfl rfl)
  obtain ⟨n9, rfl, h9⟩ := cell_int Tryz.underlying5 (hc 9 _ _ rfl rfl)
  obtain ⟨n10, rfl, h10⟩ := cell_int Tryz.underlying5 (hc 10 _ _ rfl rfl)
  obtain ⟨n11, rfl, h11⟩ := cell_int Tryz.underlying5 (hc 11 _ _ rfl rfl)
  obtain ⟨n12, rfl, h12⟩ := cell_int Tryz.underlying5 (hc 12 _ _ rfl rfl)
  replace h0 := has_i32 h0
  replace h1 := has_i32 h1
  replace h2 := has_i32 h2
  replace h3 := has_u8 h3
  obtain ⟨m3, rfl⟩ := Int.eq_ofNat_of_zero_le h3.1
  replace h4 := has_u8 h4
  obtain ⟨m4, rfl⟩ := Int.eq_ofNat_of_zero_le h4.1
  replace h5 := has_u8 h5
  obtain ⟨m5, rfl⟩ := Int.eq_ofNat_of_zero_le h5.1
  replace h6 := has_u8 h6
  obtain ⟨m6, rfl⟩ := Int.eq_ofNat_of_zero_le h6.1
  replace h7 := has_u16 h7
  obtain ⟨m7, rfl⟩ := Int.eq_ofNat_of_zero_le h7.1
  replace h8 := has_u8 h8
  obtain ⟨m8, rfl⟩ := Int.eq_ofNat_of_zero_le h8.1
  replace h9 := has_u8 h9
  obtain ⟨m9, rfl⟩ := Int.eq_ofNat_of_zero_le h9.1
  replace h10 := has_u8 h10
  obtain ⟨m10, rfl⟩ := Int.eq_ofNat_of_zero_le h10.1
  replace h11 := has_u8 h11
  obtain ⟨m11, rfl⟩ := Int.eq_ofNat_of_zero_le h11.1
  replace h12 := has_u8 h12
  obtain ⟨m12, rfl⟩ := Int.eq_ofNat_of_zero_le h12.1
  exact ⟨⟨n0, n1, n2, m3, m4, m5, m6, m7, m8, m9, m10, m11, m12⟩, rfl, ⟨h0, h1, h2, by simp only; omega, by simp only; omega, by simp only; omega, by simp only; omega, by simp only; omega, by simp only; omega, by simp only; omega, by simp only; omega, by simp only; omega, by simp only; omega⟩⟩
end
end Go.Proofs.YtbdmieelokmhiaaGreatDoor
