/-
  An argument of type Draft (layer 14), opened.
-/
import Derived.Test.YtmcgbjjcpcgcfaaGreatDoorPKit
import Derived.Test.YtmcgbjjcpcgcfaaGreatDoorDraftV
set_option linter.unusedVariables false
set_option linter.unusedSimpArgs false
set_option maxRecDepth 100000
namespace Go.Proofs.YtmcgbjjcpcgcfaaGreatDoor
open Go.ChangeShapes Go.WideShapes Go.ChangeAt Go.RowKit
section
variable {H : Type} {enc : TypeId × Value → H} {w : World} {base : Nat} {sp : Nat → Bool} {held : Bool} {fuel : Nat} {cs : List Value} {x : DataW H × List MemPlace}
theorem dc_u8 : Tryz.prog.cellsOf 5 = 1 := by kernel_rfl
theorem dc_u16 : Tryz.prog.cellsOf 62 = 1 := by kernel_rfl
theorem dc_i32 : Tryz.prog.cellsOf 21 = 1 := by kernel_rfl
theorem dc_Y : Tryz.prog.cellsOf 64 = 3 := by kernel_rfl
theorem dc_R : Tryz.prog.cellsOf 99 = 11 := by kernel_rfl
theorem dc_E : Tryz.prog.cellsOf 66 = 12 := by kernel_rfl
theorem dc_D : Tryz.prog.cellsOf 39 = 5 := by kernel_rfl
theorem dc_sR : Tryz.prog.cellsOf 35 = 1 := by kernel_rfl
theorem dc_sE : Tryz.prog.cellsOf 37 = 1 := by kernel_rfl
theorem dc_sU : Tryz.prog.cellsOf 36 = 1 := by kernel_rfl
theorem leaf_intw {P : Program} {t : TypeId} {k : IntKind} {o : Nat} (ht : P.underlying t = some (.int k)) (hc : P.cellsOf t = 1) (h : DataW.trod enc P w base sp held fuel t ((cs.drop o).take (P.cellsOf t)) = some x) : ∃ n, cs[o]? = some (.int k n) ∧ (Lit.int k n).wf = true := by
  obtain ⟨n, e, _, hw⟩ := DataW.trod_int ht h
  rw [hc] at e
  exact ⟨n, one_at e, hw⟩
theorem leaf_u8 {o : Nat} (h : DataW.trod enc Tryz.prog w base sp held fuel 5 ((cs.drop o).take (Tryz.prog.cellsOf 5)) = some x) : ∃ n : Nat, cs[o]? = some (.int .u8 (n : Int)) ∧ n < 256 := by
  obtain ⟨a, e, hw⟩ := leaf_intw Tryz.underlying5 dc_u8 h
  have hb := bounds_u8 hw
  obtain ⟨n, rfl⟩ := Int.eq_ofNat_of_zero_le hb.1
  exact ⟨n, e, by omega⟩
theorem leaf_u16 {o : Nat} (h : DataW.trod enc Tryz.prog w base sp held fuel 62 ((cs.drop o).take (Tryz.prog.cellsOf 62)) = some x) : ∃ n : Nat, cs[o]? = some (.int .u16 (n : Int)) ∧ n < 65536 := by
  obtain ⟨a, e, hw⟩ := leaf_intw Tryz.underlying62 dc_u16 h
  have hb := bounds_u16 hw
  obtain ⟨n, rfl⟩ := Int.eq_ofNat_of_zero_le hb.1
  exact ⟨n, e, by omega⟩
theorem leaf_i32 {o : Nat} (h : DataW.trod enc Tryz.prog w base sp held fuel 21 ((cs.drop o).take (Tryz.prog.cellsOf 21)) = some x) : ∃ n : Int, cs[o]? = some (.int .i32 n) ∧ (-2147483648 ≤ n ∧ n ≤ 2147483647) := by
  obtain ⟨a, e, hw⟩ := leaf_intw Tryz.underlying21 dc_i32 h
  simp only [Lit.wf, Bool.and_eq_true, decide_eq_true_eq] at hw
  exact ⟨a, e, hw⟩
theorem dec_u8 (h : DataW.trod enc Tryz.prog w base sp held fuel 5 cs = some x) : ∃ n : Nat, cs = (encU n).toList ∧ n < 256 := by
  obtain ⟨a, e, _, hw⟩ := DataW.trod_int Tryz.underlying5 h
  have hb := bounds_u8 hw
  obtain ⟨n, rfl⟩ := Int.eq_ofNat_of_zero_le hb.1
  exact ⟨n, e, by omega⟩
theorem dec_DraftR (h : DataW.trod enc Tryz.prog w base sp held fuel 99 cs = some x) : ∃ d : DraftR, cs = d.cells.toList ∧ d.Ok := by
  obtain ⟨m1, y1, g1⟩ := struct_f Tryz.underlying99 h (i := 0) rfl
  have g1 : DataW.trod enc Tryz.prog w base sp held m1 5 ((cs.drop 0).take (Tryz.prog.cellsOf 5)) = some y1 := g1
  obtain ⟨a1, e1, b1⟩ := leaf_u8 g1
  obtain ⟨m2, y2, g2⟩ := struct_f Tryz.underlying99 h (i := 1) rfl
  have g2 : DataW.trod enc Tryz.prog w base sp held m2 5 ((cs.drop 1).take (Tryz.prog.cellsOf 5)) = some y2 := g2
  obtain ⟨a2, e2, b2⟩ := leaf_u8 g2
  obtain ⟨m3, y3, g3⟩ := struct_f Tryz.underlying99 h (i := 2) rfl
  have g3 : DataW.trod enc Tryz.prog w base sp held m3 62 ((cs.drop 2).take (Tryz.prog.cellsOf 62)) = some y3 := g3
  obtain ⟨a3, e3, b3⟩ := leaf_u16 g3
  obtain ⟨m4, y4, g4⟩ := struct_f Tryz.underlying99 h (i := 3) rfl
  have g4 : DataW.trod enc Tryz.prog w base sp held m4 62 ((cs.drop 3).take (Tryz.prog.cellsOf 62)) = some y4 := g4
  obtain ⟨a4, e4, b4⟩ := leaf_u16 g4
  obtain ⟨m5, y5, g5⟩ := struct_f Tryz.underlying99 h (i := 4) rfl
  have g5 : DataW.trod enc Tryz.prog w base sp held m5 5 ((cs.drop 4).take (Tryz.prog.cellsOf 5)) = some y5 := g5
  obtain ⟨a5, e5, b5⟩ := leaf_u8 g5
  obtain ⟨m6, y6, g6⟩ := struct_f Tryz.underlying99 h (i := 5) rfl
  have g6 : DataW.trod enc Tryz.prog w base sp held m6 64 ((cs.drop 5).take (Tryz.prog.cellsOf 64)) = some y6 := g6
  rw [dc_Y] at g6
  obtain ⟨m7, y7, g7⟩ := struct_f Tryz.underlying64 g6 (i := 0) rfl
  have g7 : DataW.trod enc Tryz.prog w base sp held m7 5 ((((cs.drop 5).take 3).drop 0).take (Tryz.prog.cellsOf 5)) = some y7 := g7
  obtain ⟨a7, e7, b7⟩ := leaf_u8 g7
  have e7 := in_at e7
  obtain ⟨m8, y8, g8⟩ := struct_f Tryz.underlying64 g6 (i := 1) rfl
  have g8 : DataW.trod enc Tryz.prog w base sp held m8 5 ((((cs.drop 5).take 3).drop 1).take (Tryz.prog.cellsOf 5)) = some y8 := g8
  obtain ⟨a8, e8, b8⟩ := leaf_u8 g8
  have e8 := in_at e8
  obtain ⟨m9, y9, g9⟩ := struct_f Tryz.underlying64 g6 (i := 2) rfl
  have g9 : DataW.trod enc Tryz.prog w base sp held m9 5 ((((cs.drop 5).take 3).drop 2).take (Tryz.prog.cellsOf 5)) = some y9 := g9
  obtain ⟨a9, e9, b9⟩ := leaf_u8 g9
  have e9 := in_at e9
  obtain ⟨m10, y10, g10⟩ := struct_f Tryz.underlying99 h (i := 6) rfl
  have g10 : DataW.trod enc Tryz.prog w base sp held m10 21 ((cs.drop 8).take (Tryz.prog.cellsOf 21)) = some y10 := g10
  obtain ⟨a10, e10, b10⟩ := leaf_i32 g10
  obtain ⟨m11, y11, g11⟩ := struct_f Tryz.underlying99 h (i := 7) rfl
  have g11 : DataW.trod enc Tryz.prog w base sp held m11 21 ((cs.drop 9).take (Tryz.prog.cellsOf 21)) = some y11 := g11
  obtain ⟨a11, e11, b11⟩ := leaf_i32 g11
  obtain ⟨m12, y12, g12⟩ := struct_f Tryz.underlying99 h (i := 8) rfl
  have g12 : DataW.trod enc Tryz.prog w base sp held m12 5 ((cs.drop 10).take (Tryz.prog.cellsOf 5)) = some y12 := g12
  obtain ⟨a12, e12, b12⟩ := leaf_u8 g12
  have hl := struct_len Tryz.underlying99 h
  rw [dc_R] at hl
  refine ⟨⟨a1, a2, a3, a4, a5, a7, a8, a9, a10, a11, a12⟩, list_eq hl fun i hi => ?_, ⟨b1, b2, b3, b4, b5, b7, b8, b9, b10, b11, b12⟩⟩
  match i, hi with
  | 0, _ => exact e1
  | 1, _ => exact e2
  | 2, _ => exact e3
  | 3, _ => exact e4
  | 4, _ => exact e5
  | 5, _ => exact e7
  | 6, _ => exact e8
  | 7, _ => exact e9
  | 8, _ => exact e10
  | 9, _ => exact e11
  | 10, _ => exact e12
  | n + 11, h => exact absurd (show n + 11 < 11 from h) (by omega)
theorem dec_DraftE (h : DataW.trod enc Tryz.prog w base sp held fuel 66 cs = some x) : ∃ d : DraftE, cs = d.cells.toList ∧ d.Ok := by
  obtain ⟨m1, y1, g1⟩ := struct_f Tryz.underlying66 h (i := 0) rfl
  have g1 : DataW.trod enc Tryz.prog w base sp held m1 21 ((cs.drop 0).take (Tryz.prog.cellsOf 21)) = some y1 := g1
  obtain ⟨a1, e1, b1⟩ := leaf_i32 g1
  obtain ⟨m2, y2, g2⟩ := struct_f Tryz.underlying66 h (i := 1) rfl
  have g2 : DataW.trod enc Tryz.prog w base sp held m2 21 ((cs.drop 1).take (Tryz.prog.cellsOf 21)) = some y2 := g2
  obtain ⟨a2, e2, b2⟩ := leaf_i32 g2
  obtain ⟨m3, y3, g3⟩ := struct_f Tryz.underlying66 h (i := 2) rfl
  have g3 : DataW.trod enc Tryz.prog w base sp held m3 21 ((cs.drop 2).take (Tryz.prog.cellsOf 21)) = some y3 := g3
  obtain ⟨a3, e3, b3⟩ := leaf_i32 g3
  obtain ⟨m4, y4, g4⟩ := struct_f Tryz.underlying66 h (i := 3) rfl
  have g4 : DataW.trod enc Tryz.prog w base sp held m4 5 ((cs.drop 3).take (Tryz.prog.cellsOf 5)) = some y4 := g4
  obtain ⟨a4, e4, b4⟩ := leaf_u8 g4
  obtain ⟨m5, y5, g5⟩ := struct_f Tryz.underlying66 h (i := 4) rfl
  have g5 : DataW.trod enc Tryz.prog w base sp held m5 5 ((cs.drop 4).take (Tryz.prog.cellsOf 5)) = some y5 := g5
  obtain ⟨a5, e5, b5⟩ := leaf_u8 g5
  obtain ⟨m6, y6, g6⟩ := struct_f Tryz.underlying66 h (i := 5) rfl
  have g6 : DataW.trod enc Tryz.prog w base sp held m6 5 ((cs.drop 5).take (Tryz.prog.cellsOf 5)) = some y6 := g6
  obtain ⟨a6, e6, b6⟩ := leaf_u8 g6
  obtain ⟨m7, y7, g7⟩ := struct_f Tryz.underlying66 h (i := 6) rfl
  have g7 : DataW.trod enc Tryz.prog w base sp held m7 62 ((cs.drop 6).take (Tryz.prog.cellsOf 62)) = some y7 := g7
  obtain ⟨a7, e7, b7⟩ := leaf_u16 g7
  obtain ⟨m8, y8, g8⟩ := struct_f Tryz.underlying66 h (i := 7) rfl
  have g8 : DataW.trod enc Tryz.prog w base sp held m8 5 ((cs.drop 7).take (Tryz.prog.cellsOf 5)) = some y8 := g8
  obtain ⟨a8, e8, b8⟩ := leaf_u8 g8
  obtain ⟨m9, y9, g9⟩ := struct_f Tryz.underlying66 h (i := 8) rfl
  have g9 : DataW.trod enc Tryz.prog w base sp held m9 5 ((cs.drop 8).take (Tryz.prog.cellsOf 5)) = some y9 := g9
  obtain ⟨a9, e9, b9⟩ := leaf_u8 g9
  obtain ⟨m10, y10, g10⟩ := struct_f Tryz.underlying66 h (i := 9) rfl
  have g10 : DataW.trod enc Tryz.prog w base sp held m10 64 ((cs.drop 9).take (Tryz.prog.cellsOf 64)) = some y10 := g10
  rw [dc_Y] at g10
  obtain ⟨m11, y11, g11⟩ := struct_f Tryz.underlying64 g10 (i := 0) rfl
  have g11 : DataW.trod enc Tryz.prog w base sp held m11 5 ((((cs.drop 9).take 3).drop 0).take (Tryz.prog.cellsOf 5)) = some y11 := g11
  obtain ⟨a11, e11, b11⟩ := leaf_u8 g11
  have e11 := in_at e11
  obtain ⟨m12, y12, g12⟩ := struct_f Tryz.underlying64 g10 (i := 1) rfl
  have g12 : DataW.trod enc Tryz.prog w base sp held m12 5 ((((cs.drop 9).take 3).drop 1).take (Tryz.prog.cellsOf 5)) = some y12 := g12
  obtain ⟨a12, e12, b12⟩ := leaf_u8 g12
  have e12 := in_at e12
  obtain ⟨m13, y13, g13⟩ := struct_f Tryz.underlying64 g10 (i := 2) rfl
  have g13 : DataW.trod enc Tryz.prog w base sp held m13 5 ((((cs.drop 9).take 3).drop 2).take (Tryz.prog.cellsOf 5)) = some y13 := g13
  obtain ⟨a13, e13, b13⟩ := leaf_u8 g13
  have e13 := in_at e13
  have hl := struct_len Tryz.underlying66 h
  rw [dc_E] at hl
  refine ⟨⟨a1, a2, a3, a4, a5, a6, a7, a8, a9, a11, a12, a13⟩, list_eq hl fun i hi => ?_, ⟨b1, b2, b3, b4, b5, b6, b7, b8, b9, b11, b12, b13⟩⟩
  match i, hi with
  | 0, _ => exact e1
  | 1, _ => exact e2
  | 2, _ => exact e3
  | 3, _ => exact e4
  | 4, _ => exact e5
  | 5, _ => exact e6
  | 6, _ => exact e7
  | 7, _ => exact e8
  | 8, _ => exact e9
  | 9, _ => exact e11
  | 10, _ => exact e12
  | 11, _ => exact e13
  | n + 12, h => exact absurd (show n + 12 < 12 from h) (by omega)
theorem open_draft {r : Reach} {b0 : Nat} {v : Value} {d : DataW H} {p : List MemPlace} (hv : Value.okWide Tryz.prog w r b0 39 v) (h : DataW.Trod enc Tryz.prog w 0 (fun _ => true) true 39 v d p) : ∃ s, DraftV s v w := by
  obtain ⟨cs, rfl⟩ := okWide_agg Tryz.underlying39 hv
  obtain ⟨fuel, h⟩ := h
  have h : DataW.trod enc Tryz.prog w 0 (fun _ => true) true fuel 39 cs.toList = some (d, p) := h
  obtain ⟨m1, y1, g1⟩ := struct_f Tryz.underlying39 h (i := 0) rfl
  have g1 : DataW.trod enc Tryz.prog w 0 (fun _ => true) true m1 35 ((cs.toList.drop 0).take (Tryz.prog.cellsOf 35)) = some y1 := g1
  rw [dc_sR] at g1
  obtain ⟨v1, l1, e1, k1, q1⟩ := rows_open (α := DraftR) (en := DraftR.cells) (Q := DraftR.Ok) Tryz.underlying35 dc_R (by decide) (fun _ => rfl) (fun m cl y hy => dec_DraftR hy) g1
  obtain ⟨m2, y2, g2⟩ := struct_f Tryz.underlying39 h (i := 1) rfl
  have g2 : DataW.trod enc Tryz.prog w 0 (fun _ => true) true m2 36 ((cs.toList.drop 1).take (Tryz.prog.cellsOf 36)) = some y2 := g2
  rw [dc_sU] at g2
  obtain ⟨v2, l2, e2, k2, q2⟩ := rows_open (α := Nat) (en := encU) (Q := (· < 256)) Tryz.underlying36 dc_u8 (by decide) (fun _ => rfl) (fun m cl y hy => dec_u8 hy) g2
  obtain ⟨m3, y3, g3⟩ := struct_f Tryz.underlying39 h (i := 2) rfl
  have g3 : DataW.trod enc Tryz.prog w 0 (fun _ => true) true m3 37 ((cs.toList.drop 2).take (Tryz.prog.cellsOf 37)) = some y3 := g3
  rw [dc_sE] at g3
  obtain ⟨v3, l3, e3, k3, q3⟩ := rows_open (α := DraftE) (en := DraftE.cells) (Q := DraftE.Ok) Tryz.underlying37 dc_E (by decide) (fun _ => rfl) (fun m cl y hy => dec_DraftE hy) g3
  obtain ⟨m4, y4, g4⟩ := struct_f Tryz.underlying39 h (i := 3) rfl
  have g4 : DataW.trod enc Tryz.prog w 0 (fun _ => true) true m4 36 ((cs.toList.drop 3).take (Tryz.prog.cellsOf 36)) = some y4 := g4
  rw [dc_sU] at g4
  obtain ⟨v4, l4, e4, k4, q4⟩ := rows_open (α := Nat) (en := encU) (Q := (· < 256)) Tryz.underlying36 dc_u8 (by decide) (fun _ => rfl) (fun m cl y hy => dec_u8 hy) g4
  obtain ⟨m5, y5, g5⟩ := struct_f Tryz.underlying39 h (i := 4) rfl
  have g5 : DataW.trod enc Tryz.prog w 0 (fun _ => true) true m5 36 ((cs.toList.drop 4).take (Tryz.prog.cellsOf 36)) = some y5 := g5
  rw [dc_sU] at g5
  obtain ⟨v5, l5, e5, k5, q5⟩ := rows_open (α := Nat) (en := encU) (Q := (· < 256)) Tryz.underlying36 dc_u8 (by decide) (fun _ => rfl) (fun m cl y hy => dec_u8 hy) g5
  have hl := struct_len Tryz.underlying39 h
  rw [dc_D] at hl
  have ecs : cs.toList = [v1, v2, v3, v4, v5] := list_eq hl fun i hi => by
    match i, hi with
    | 0, _ => exact one_at e1
    | 1, _ => exact one_at e2
    | 2, _ => exact one_at e3
    | 3, _ => exact one_at e4
    | 4, _ => exact one_at e5
    | n + 5, h => exact absurd (show n + 5 < 5 from h) (by omega)
  obtain rfl : cs = #[v1, v2, v3, v4, v5] := Array.ext' ecs
  exact ⟨⟨l1, l2, l3, l4, l5⟩, ⟨q1, q2, q3, q4, q5⟩, v1, v2, v3, v4, v5, rfl, k1, k2, k3, k4, k5⟩
end
end Go.Proofs.YtmcgbjjcpcgcfaaGreatDoor
