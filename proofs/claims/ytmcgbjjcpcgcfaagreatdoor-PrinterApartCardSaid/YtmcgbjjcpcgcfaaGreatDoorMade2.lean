/-
  Days and clocks of drafts: what Made returns.
-/
import Derived.Test.YtmcgbjjcpcgcfaaGreatDoorDayAll
import Derived.Deep.DeepCutAuto
import Derived.Outline
import Derived.Handy
set_option linter.unusedVariables false
namespace Go.Proofs.YtmcgbjjcpcgcfaaGreatDoor
open Go.RowKit

/-- the day form of three numbers -/
def dayM (k wk d : Nat) : Int × Int × Int := if k % 4 = 0 then (1, 0, 1 + (d % 31 : Nat)) else if k % 4 = 1 then (2, (wk % 7 : Nat), 0) else if k % 4 = 2 then (3, (wk % 7 : Nat), 1 + (d % 31 : Nat)) else (4, (wk % 7 : Nat), 1 + (d % 31 : Nat))
theorem dayM_right (k wk d : Nat) : rightDay (dayM k wk d).1 (dayM k wk d).2.1 (dayM k wk d).2.2 = true := by
  have h1 := Nat.mod_lt wk (show 0 < 7 by decide)
  have h2 := Nat.mod_lt d (show 0 < 31 by decide)
  unfold dayM
  split
  · simp [rightDay]; omega
  · split
    · simp [rightDay]; omega
    · split
      · simp [rightDay]; omega
      · simp [rightDay]; omega

set_option maxRecDepth 100000 in
set_option maxHeartbeats 1000000 in
theorem made6_any (s : Int) (b : Nat) (w : World) (hs : -2147483648 ≤ s ∧ s ≤ 2147483647) (hb : b < 256) :
    Calls Tryz.prog 68 #[.int .i32 s, .int .u8 (b : Int)] w fun e w' => e = .returned (.agg #[.int .i64 (s.tmod 604800), .int .i64 ((b : Int) % 3)]) ∧ Below w.heap.size w w' := by
  obtain ⟨hs1, hs2⟩ := hs
  go_enter Tryz.func68, Tryz.ntmps68
  go_wp2_with fail
  refine bodyPost_ret (by simp [results, Tryz.results68, go_sem]) rfl ⟨rfl, by go_grown⟩

set_option maxRecDepth 100000 in
theorem fixed_any (x : Int) (w : World) : Calls Tryz.prog 102 #[.int .i64 x] w fun e w' => e = .returned (.agg #[.int .i64 1, .int .i64 0, .int .i64 x]) ∧ Below w.heap.size w w' := by
  go_enter Tryz.func102, Tryz.ntmps102
  go_wp2_with fail
  refine bodyPost_ret (by simp [results, Tryz.results102, go_sem]) rfl ⟨rfl, by go_grown⟩
set_option maxRecDepth 100000 in
theorem lastd_any (x : Int) (w : World) : Calls Tryz.prog 103 #[.int .i64 x] w fun e w' => e = .returned (.agg #[.int .i64 2, .int .i64 x, .int .i64 0]) ∧ Below w.heap.size w w' := by
  go_enter Tryz.func103, Tryz.ntmps103
  go_wp2_with fail
  refine bodyPost_ret (by simp [results, Tryz.results103, go_sem]) rfl ⟨rfl, by go_grown⟩
set_option maxRecDepth 100000 in
theorem fromd_any (x y : Int) (w : World) : Calls Tryz.prog 104 #[.int .i64 x, .int .i64 y] w fun e w' => e = .returned (.agg #[.int .i64 3, .int .i64 x, .int .i64 y]) ∧ Below w.heap.size w w' := by
  go_enter Tryz.func104, Tryz.ntmps104
  go_wp2_with fail
  refine bodyPost_ret (by simp [results, Tryz.results104, go_sem]) rfl ⟨rfl, by go_grown⟩
set_option maxRecDepth 100000 in
theorem tod_any (x y : Int) (w : World) : Calls Tryz.prog 105 #[.int .i64 x, .int .i64 y] w fun e w' => e = .returned (.agg #[.int .i64 4, .int .i64 x, .int .i64 y]) ∧ Below w.heap.size w w' := by
  go_enter Tryz.func105, Tryz.ntmps105
  go_wp2_with fail
  refine bodyPost_ret (by simp [results, Tryz.results105, go_sem]) rfl ⟨rfl, by go_grown⟩

set_option maxRecDepth 100000 in
set_option maxHeartbeats 1000000 in
theorem made2_any (k wk d : Nat) (w : World) (hk : k < 256) (hw : wk < 256) (hd : d < 256) :
    Calls Tryz.prog 67 #[.agg #[.int .u8 (k : Int), .int .u8 (wk : Int), .int .u8 (d : Int)]] w fun e w' => e = .returned (dayV (dayM k wk d)) ∧ Below w.heap.size w w' := by
  rcases (by omega : k % 4 = 0 ∨ k % 4 = 1 ∨ k % 4 = 2 ∨ k % 4 = 3) with h | h | h | h
  · have HM := Lib.hid (show dayM k wk d = ((1 : Int), (0 : Int), 1 + (d : Int) % 31) by simp [dayM, h])
    have e0 : ((k : Int) % 4 == 0) = true := by rw [beq_iff_eq]; omega
    clear h
    go_enter Tryz.func67, Tryz.ntmps67
    go_wp2_with fail
    go_region
    all_goals
      go_wp2_with fail
      refine (fixed_any _ _).mono ?_
      rintro e w1 ⟨rfl, hb1⟩
      have bz : Blk w1 (w.heap.size + 1) 43 #[.int .i64 0, .int .i64 0, .int .i64 0] := (Blk.drew (Blk.new' _ _ _ (by simp))).below hb1 (by simp)
      have z0 : w1.cell? ⟨w.heap.size + 1, 0, none⟩ = some (.int .i64 0) := bz.cell_ rfl
      have z1 : w1.cell? ⟨w.heap.size + 1, 1, none⟩ = some (.int .i64 0) := bz.cell_ rfl
      have z2 : w1.cell? ⟨w.heap.size + 1, 2, none⟩ = some (.int .i64 0) := bz.cell_ rfl
      have y0 := bz.frozen 0
      have y1 := bz.frozen 1
      have y2 := bz.frozen 2
      have HB := Lib.hid (show Below w.heap.size w w1 from ((((Below.refl _ _).alloc (Nat.le_refl _) _).alloc (by simp) _).drew).trans (hb1.mono (by simp; omega)))
      clear bz hb1
      go_wp2_with fail
      refine bodyPost_ret (by simp [results, Tryz.results67, go_sem, z0, z1, z2]; rfl) rfl ⟨?_, ?_⟩
      · rw [HM.out, dayV]
      · have hBv := HB.out; go_grown
  · have HM := Lib.hid (show dayM k wk d = ((2 : Int), (wk : Int) % 7, (0 : Int)) by simp [dayM, h])
    have e0 : ((k : Int) % 4 == 0) = false := by rw [beq_eq_false_iff_ne]; omega
    have e1 : ((k : Int) % 4 == 1) = true := by rw [beq_iff_eq]; omega
    clear h
    go_enter Tryz.func67, Tryz.ntmps67
    go_wp2_with fail
    go_region
    all_goals
      go_wp2_with fail
      refine (lastd_any _ _).mono ?_
      rintro e w1 ⟨rfl, hb1⟩
      have bz : Blk w1 (w.heap.size + 1) 43 #[.int .i64 0, .int .i64 0, .int .i64 0] := (Blk.drew (Blk.new' _ _ _ (by simp))).below hb1 (by simp)
      have z0 : w1.cell? ⟨w.heap.size + 1, 0, none⟩ = some (.int .i64 0) := bz.cell_ rfl
      have z1 : w1.cell? ⟨w.heap.size + 1, 1, none⟩ = some (.int .i64 0) := bz.cell_ rfl
      have z2 : w1.cell? ⟨w.heap.size + 1, 2, none⟩ = some (.int .i64 0) := bz.cell_ rfl
      have y0 := bz.frozen 0
      have y1 := bz.frozen 1
      have y2 := bz.frozen 2
      have HB := Lib.hid (show Below w.heap.size w w1 from ((((Below.refl _ _).alloc (Nat.le_refl _) _).alloc (by simp) _).drew).trans (hb1.mono (by simp; omega)))
      clear bz hb1
      go_wp2_with fail
      refine bodyPost_ret (by simp [results, Tryz.results67, go_sem, z0, z1, z2]; rfl) rfl ⟨?_, ?_⟩
      · rw [HM.out, dayV]
      · have hBv := HB.out; go_grown
  · have HM := Lib.hid (show dayM k wk d = ((3 : Int), (wk : Int) % 7, 1 + (d : Int) % 31) by simp [dayM, h])
    have e0 : ((k : Int) % 4 == 0) = false := by rw [beq_eq_false_iff_ne]; omega
    have e1 : ((k : Int) % 4 == 1) = false := by rw [beq_eq_false_iff_ne]; omega
    have e2 : ((k : Int) % 4 == 2) = true := by rw [beq_iff_eq]; omega
    clear h
    go_enter Tryz.func67, Tryz.ntmps67
    go_wp2_with fail
    go_region
    all_goals
      go_wp2_with fail
      refine (fromd_any _ _ _).mono ?_
      rintro e w1 ⟨rfl, hb1⟩
      have bz : Blk w1 (w.heap.size + 1) 43 #[.int .i64 0, .int .i64 0, .int .i64 0] := (Blk.drew (Blk.new' _ _ _ (by simp))).below hb1 (by simp)
      have z0 : w1.cell? ⟨w.heap.size + 1, 0, none⟩ = some (.int .i64 0) := bz.cell_ rfl
      have z1 : w1.cell? ⟨w.heap.size + 1, 1, none⟩ = some (.int .i64 0) := bz.cell_ rfl
      have z2 : w1.cell? ⟨w.heap.size + 1, 2, none⟩ = some (.int .i64 0) := bz.cell_ rfl
      have y0 := bz.frozen 0
      have y1 := bz.frozen 1
      have y2 := bz.frozen 2
      have HB := Lib.hid (show Below w.heap.size w w1 from ((((Below.refl _ _).alloc (Nat.le_refl _) _).alloc (by simp) _).drew).trans (hb1.mono (by simp; omega)))
      clear bz hb1
      go_wp2_with fail
      refine bodyPost_ret (by simp [results, Tryz.results67, go_sem, z0, z1, z2]; rfl) rfl ⟨?_, ?_⟩
      · rw [HM.out, dayV]
      · have hBv := HB.out; go_grown
  · have HM := Lib.hid (show dayM k wk d = ((4 : Int), (wk : Int) % 7, 1 + (d : Int) % 31) by simp [dayM, h])
    have e0 : ((k : Int) % 4 == 0) = false := by rw [beq_eq_false_iff_ne]; omega
    have e1 : ((k : Int) % 4 == 1) = false := by rw [beq_eq_false_iff_ne]; omega
    have e2 : ((k : Int) % 4 == 2) = false := by rw [beq_eq_false_iff_ne]; omega
    clear h
    go_enter Tryz.func67, Tryz.ntmps67
    go_wp2_with fail
    go_region
    all_goals
      go_wp2_with fail
      refine (tod_any _ _ _).mono ?_
      rintro e w1 ⟨rfl, hb1⟩
      have bz : Blk w1 (w.heap.size + 1) 43 #[.int .i64 0, .int .i64 0, .int .i64 0] := (Blk.drew (Blk.new' _ _ _ (by simp))).below hb1 (by simp)
      have z0 : w1.cell? ⟨w.heap.size + 1, 0, none⟩ = some (.int .i64 0) := bz.cell_ rfl
      have z1 : w1.cell? ⟨w.heap.size + 1, 1, none⟩ = some (.int .i64 0) := bz.cell_ rfl
      have z2 : w1.cell? ⟨w.heap.size + 1, 2, none⟩ = some (.int .i64 0) := bz.cell_ rfl
      have y0 := bz.frozen 0
      have y1 := bz.frozen 1
      have y2 := bz.frozen 2
      have HB := Lib.hid (show Below w.heap.size w w1 from ((((Below.refl _ _).alloc (Nat.le_refl _) _).alloc (by simp) _).drew).trans (hb1.mono (by simp; omega)))
      clear bz hb1
      go_wp2_with fail
      refine bodyPost_ret (by simp [results, Tryz.results67, go_sem, z0, z1, z2]; rfl) rfl ⟨?_, ?_⟩
      · rw [HM.out, dayV]
      · have hBv := HB.out; go_grown

end Go.Proofs.YtmcgbjjcpcgcfaaGreatDoor
