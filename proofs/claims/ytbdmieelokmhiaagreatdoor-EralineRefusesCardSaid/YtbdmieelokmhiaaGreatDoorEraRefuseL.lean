/-
  The law EralineRefuses: what the call returns.
-/
import Derived.Test.YtbdmieelokmhiaaGreatDoorEraMade3
import Derived.Shelf.Strings.Repeat
set_option linter.unusedVariables false
set_option linter.unusedSimpArgs false
namespace Go.Proofs.YtbdmieelokmhiaaGreatDoor
open Go.RowKit

theorem ebad_set : ∀ i : Fin 4, setB ([[], [49], [82, 32, 82], [45]].getD i.val []) = false := by decide +kernel
theorem ebad_fmt : ∀ i : Fin 6, fmtB ([[], [65, 32, 66], [34], [35], [10], List.replicate 21 120].getD i.val []) = false := by decide +kernel
theorem cells_of4 (W : World) (a b c d : ByteArray) (i : Nat) (s : ByteArray) (h : #[a, b, c, d][i]? = some s) : (W.alloc (.cells #[.string a, .string b, .string c, .string d] 9)).cell? ⟨W.heap.size, i, none⟩ = some (.string s) := by
  refine (Blk.new W 9 #[.string a, .string b, .string c, .string d]).cell_ ?_
  rcases (by omega : i = 0 ∨ i = 1 ∨ i = 2 ∨ i = 3 ∨ 4 ≤ i) with rfl | rfl | rfl | rfl | hi
  · cases h; rfl
  · cases h; rfl
  · cases h; rfl
  · cases h; rfl
  · rw [Array.getElem?_eq_none (by simpa using hi)] at h; cases h
theorem cells_of6 (W : World) (a b c d e f : ByteArray) (i : Nat) (s : ByteArray) (h : #[a, b, c, d, e, f][i]? = some s) : (W.alloc (.cells #[.string a, .string b, .string c, .string d, .string e, .string f] 9)).cell? ⟨W.heap.size, i, none⟩ = some (.string s) := by
  refine (Blk.new W 9 #[.string a, .string b, .string c, .string d, .string e, .string f]).cell_ ?_
  rcases (by omega : i = 0 ∨ i = 1 ∨ i = 2 ∨ i = 3 ∨ i = 4 ∨ i = 5 ∨ 6 ≤ i) with rfl | rfl | rfl | rfl | rfl | rfl | hi
  · cases h; rfl
  · cases h; rfl
  · cases h; rfl
  · cases h; rfl
  · cases h; rfl
  · cases h; rfl
  · rw [Array.getElem?_eq_none (by simpa using hi)] at h; cases h
theorem eprint_wrong (e : EraP) (hne : ¬ EraRight e) (hl1 : e.set.length ≤ 1048576) (hl2 : e.fmt.length ≤ 1048576) (w : World) (hT : ETabs w) :
    Calls Tryz.prog 13 #[.agg e.cells] w fun r w' => r = .returned (.tuple #[.string ⟨#[]⟩, .int .i64 2]) ∧ Below w.heap.size w w' := by
  have h := eprint_any e w hT hl1 hl2
  rwa [show eraPrintR e = ([], 2) from if_neg fun h2 => hne ((eraOk_iff _).1 h2)] at h
theorem repeat_any (w : World) : Calls Tryz.prog 17 #[.string ⟨#[120]⟩, .int .i64 21] w fun e w' => e = .returned (.string ⟨(List.replicate 21 120).toArray⟩) ∧ Below w.heap.size w w' := by
  have h := Any.strings_Repeat Tryz.lays105 Tryz.Builder_Extra_105 ⟨#[120]⟩ 21 w (by decide) (by decide)
  rwa [show Lib.repeatL (⟨#[120]⟩ : ByteArray).data.toList 21 = List.replicate 21 120 by decide +kernel] at h

set_option maxRecDepth 100000 in
set_option maxHeartbeats 1000000 in
theorem eref_0 (D : Array Value) (x n q : Nat) (off kd sv : Int) (sn sf : ByteArray) (is : Bool) (y m d1 d2 d3 h1 h2 : Int) (w : World) (hD : (Tryz.prog.info? 43).map (·.size) = some D.size) (hq : (x : Int) % 12 = (q : Int)) (hqk : q = 0) (hx : x < 256) (hn : n < 65536) (hln : sn.data.toList.length ≤ 30 ∧ sf.data.toList.length ≤ 30)
    (HM : Hid (∀ W, Calls Tryz.prog 15 #[.agg D] W fun e w' => e = .returned (.agg #[.int .i64 off, .int .i64 kd, .int .i64 sv, .string sn, .string sf, .bool is, .int .i64 y, .int .i64 m, .int .i64 d1, .int .i64 d2, .int .i64 d3, .int .i64 h1, .int .i64 h2]) ∧ Below W.heap.size W w')) (HT : Hid (∀ W, Below w.heap.size w W → ETabs W ∧ MaxL W)) :
    Calls Tryz.prog 9 #[.agg D, .int .u8 (x : Int), .int .u16 (n : Int)] w fun e w' => e = .returned (.bool true) ∧ Below w.heap.size w w' := by
  have e0 : ((q : Int) == 0) = true := by rw [beq_iff_eq]; omega
  have HP := Lib.hid (show ∀ W, Below w.heap.size w W → Calls Tryz.prog 13 #[.agg #[.int .i64 (604800 + (n : Int)), .int .i64 kd, .int .i64 sv, .string sn, .string sf, .bool is, .int .i64 y, .int .i64 m, .int .i64 d1, .int .i64 d2, .int .i64 d3, .int .i64 h1, .int .i64 h2]] W fun e w' => e = .returned (.tuple #[.string ⟨#[]⟩, .int .i64 2]) ∧ Below W.heap.size W w' from fun W hW => by
    have h := eprint_wrong ⟨(604800 + (n : Int)), kd, sv, sn.data.toList, sf.data.toList, ⟨is, y, m, (d1, d2, d3), (h1, h2)⟩⟩ (fun h => by have := h.off; simp only at this; omega) (by simp only [List.length_nil, List.length_cons]; omega) (by simp only [List.length_nil, List.length_cons]; omega) W (HT.out W hW).1
    simpa [EraP.cells] using h)
  have HW := Lib.hid (fun W hW => eworks_any W (HT.out W hW).1 (HT.out W hW).2)
  clear hqk hln HT
  go_enter Tryz.func9, Tryz.ntmps9
  go_wp2_with (first | (refine wpList_load_row rfl 43 (.tmp 3) rfl w.heap.size rfl 43 D (0, 0) _ (Blk.new _ _ _) Tryz.underlying43 rfl hD ?_) | fail)
  refine (HM.out _).mono ?_
  rintro e w1 ⟨rfl, hb1⟩
  have HB := Lib.hid (show Below w.heap.size w w1 from ((Below.refl _ _).alloc (Nat.le_refl _) _).trans (hb1.mono (by simp)))
  clear hb1
  go_upto_region 2 with fail
  have HG := Lib.hid (And.intro (Blk.new' w1 31 #[.int .i64 off, .int .i64 kd, .int .i64 sv, .string sn, .string sf, .bool is, .int .i64 y, .int .i64 m, .int .i64 d1, .int .i64 d2, .int .i64 d3, .int .i64 h1, .int .i64 h2] rfl) (HB.out.alloc HB.out.size (.cells #[.int .i64 off, .int .i64 kd, .int .i64 sv, .string sn, .string sf, .bool is, .int .i64 y, .int .i64 m, .int .i64 d1, .int .i64 d2, .int .i64 d3, .int .i64 h1, .int .i64 h2] 31)))
  generalize w1.alloc (.cells #[.int .i64 off, .int .i64 kd, .int .i64 sv, .string sn, .string sf, .bool is, .int .i64 y, .int .i64 m, .int .i64 d1, .int .i64 d2, .int .i64 d3, .int .i64 h1, .int .i64 h2] 31) = w2 at *
  have hg : w.heap.size ≤ w1.heap.size := HB.out.size
  clear HB HM hD
  generalize w1.heap.size = g at *
  have u0 : w2.cell? ⟨g, 0, none⟩ = some (.int .i64 off) := HG.out.1.cell_ rfl
  have y0 := HG.out.1.frozen 0
  have hl := HG.out.1.lt
  obtain ⟨w5, hw5⟩ : ∃ W, (w2.setCell ⟨g, 0, none⟩ (.int .i64 (604800 + (n : Int)))) = W := ⟨_, rfl⟩
  have HX5 := Lib.hid (show Blk w5 g 31 #[.int .i64 (604800 + (n : Int)), .int .i64 kd, .int .i64 sv, .string sn, .string sf, .bool is, .int .i64 y, .int .i64 m, .int .i64 d1, .int .i64 d2, .int .i64 d3, .int .i64 h1, .int .i64 h2] ∧ Below w.heap.size w w5 from by
    rw [← hw5]
    exact ⟨Blk.setMid [] [.int .i64 off] [.int .i64 (604800 + (n : Int))] [.int .i64 kd, .int .i64 sv, .string sn, .string sf, .bool is, .int .i64 y, .int .i64 m, .int .i64 d1, .int .i64 d2, .int .i64 d3, .int .i64 h1, .int .i64 h2] HG.out.1 rfl, below_sets hg [.int .i64 (604800 + (n : Int))] 0 _ HG.out.2⟩)
  have HX := HX5
  go_upto_region 27 with fail
  try simp only [hw5]
  clear hw5 HG HX5
  clear u0 y0 hl
  go_wp2_with (first | (refine wpList_load_row rfl 31 (.tmp 7) rfl g rfl 31 #[.int .i64 (604800 + (n : Int)), .int .i64 kd, .int .i64 sv, .string sn, .string sf, .bool is, .int .i64 y, .int .i64 m, .int .i64 d1, .int .i64 d2, .int .i64 d3, .int .i64 h1, .int .i64 h2] (0, 0) _ HX.out.1 Tryz.underlying31 rfl infoEra ?_) | fail)
  refine (HP.out _ HX.out.2).mono ?_
  rintro e w7 ⟨rfl, hb2⟩
  have HB2 := Lib.hid (show Below w.heap.size w w7 from HX.out.2.trans (hb2.mono HX.out.2.size))
  clear hb2 HX
  go_wp2_with fail
  refine (HW.out _ HB2.out).mono ?_
  rintro e w8 ⟨rfl, hb3⟩
  go_wp2_with fail
  go_ret
  exact ⟨rfl, HB2.out.trans (hb3.mono HB2.out.size)⟩

set_option maxRecDepth 100000 in
set_option maxHeartbeats 1000000 in
theorem eref_1 (D : Array Value) (x n q : Nat) (off kd sv : Int) (sn sf : ByteArray) (is : Bool) (y m d1 d2 d3 h1 h2 : Int) (w : World) (hD : (Tryz.prog.info? 43).map (·.size) = some D.size) (hq : (x : Int) % 12 = (q : Int)) (hqk : q = 1) (hx : x < 256) (hn : n < 65536) (hln : sn.data.toList.length ≤ 30 ∧ sf.data.toList.length ≤ 30)
    (HM : Hid (∀ W, Calls Tryz.prog 15 #[.agg D] W fun e w' => e = .returned (.agg #[.int .i64 off, .int .i64 kd, .int .i64 sv, .string sn, .string sf, .bool is, .int .i64 y, .int .i64 m, .int .i64 d1, .int .i64 d2, .int .i64 d3, .int .i64 h1, .int .i64 h2]) ∧ Below W.heap.size W w')) (HT : Hid (∀ W, Below w.heap.size w W → ETabs W ∧ MaxL W)) :
    Calls Tryz.prog 9 #[.agg D, .int .u8 (x : Int), .int .u16 (n : Int)] w fun e w' => e = .returned (.bool true) ∧ Below w.heap.size w w' := by
  have e0 : ((q : Int) == 0) = false := by rw [beq_eq_false_iff_ne]; omega
  have e1 : ((q : Int) == 1) = true := by rw [beq_iff_eq]; omega
  have HP := Lib.hid (show ∀ W, Below w.heap.size w W → Calls Tryz.prog 13 #[.agg #[.int .i64 off, .int .i64 (3 + (n : Int)), .int .i64 sv, .string sn, .string sf, .bool is, .int .i64 y, .int .i64 m, .int .i64 d1, .int .i64 d2, .int .i64 d3, .int .i64 h1, .int .i64 h2]] W fun e w' => e = .returned (.tuple #[.string ⟨#[]⟩, .int .i64 2]) ∧ Below W.heap.size W w' from fun W hW => by
    have h := eprint_wrong ⟨off, (3 + (n : Int)), sv, sn.data.toList, sf.data.toList, ⟨is, y, m, (d1, d2, d3), (h1, h2)⟩⟩ (fun h => by have := h.kind; simp only at this; omega) (by simp only [List.length_nil, List.length_cons]; omega) (by simp only [List.length_nil, List.length_cons]; omega) W (HT.out W hW).1
    simpa [EraP.cells] using h)
  have HW := Lib.hid (fun W hW => eworks_any W (HT.out W hW).1 (HT.out W hW).2)
  clear hqk hln HT
  go_enter Tryz.func9, Tryz.ntmps9
  go_wp2_with (first | (refine wpList_load_row rfl 43 (.tmp 3) rfl w.heap.size rfl 43 D (0, 0) _ (Blk.new _ _ _) Tryz.underlying43 rfl hD ?_) | fail)
  refine (HM.out _).mono ?_
  rintro e w1 ⟨rfl, hb1⟩
  have HB := Lib.hid (show Below w.heap.size w w1 from ((Below.refl _ _).alloc (Nat.le_refl _) _).trans (hb1.mono (by simp)))
  clear hb1
  go_upto_region 2 with fail
  have HG := Lib.hid (And.intro (Blk.new' w1 31 #[.int .i64 off, .int .i64 kd, .int .i64 sv, .string sn, .string sf, .bool is, .int .i64 y, .int .i64 m, .int .i64 d1, .int .i64 d2, .int .i64 d3, .int .i64 h1, .int .i64 h2] rfl) (HB.out.alloc HB.out.size (.cells #[.int .i64 off, .int .i64 kd, .int .i64 sv, .string sn, .string sf, .bool is, .int .i64 y, .int .i64 m, .int .i64 d1, .int .i64 d2, .int .i64 d3, .int .i64 h1, .int .i64 h2] 31)))
  generalize w1.alloc (.cells #[.int .i64 off, .int .i64 kd, .int .i64 sv, .string sn, .string sf, .bool is, .int .i64 y, .int .i64 m, .int .i64 d1, .int .i64 d2, .int .i64 d3, .int .i64 h1, .int .i64 h2] 31) = w2 at *
  have hg : w.heap.size ≤ w1.heap.size := HB.out.size
  clear HB HM hD
  generalize w1.heap.size = g at *
  have u1 : w2.cell? ⟨g, 1, none⟩ = some (.int .i64 kd) := HG.out.1.cell_ rfl
  have y1 := HG.out.1.frozen 1
  have hl := HG.out.1.lt
  obtain ⟨w5, hw5⟩ : ∃ W, (w2.setCell ⟨g, 1, none⟩ (.int .i64 (3 + (n : Int)))) = W := ⟨_, rfl⟩
  have HX5 := Lib.hid (show Blk w5 g 31 #[.int .i64 off, .int .i64 (3 + (n : Int)), .int .i64 sv, .string sn, .string sf, .bool is, .int .i64 y, .int .i64 m, .int .i64 d1, .int .i64 d2, .int .i64 d3, .int .i64 h1, .int .i64 h2] ∧ Below w.heap.size w w5 from by
    rw [← hw5]
    exact ⟨Blk.setMid [.int .i64 off] [.int .i64 kd] [.int .i64 (3 + (n : Int))] [.int .i64 sv, .string sn, .string sf, .bool is, .int .i64 y, .int .i64 m, .int .i64 d1, .int .i64 d2, .int .i64 d3, .int .i64 h1, .int .i64 h2] HG.out.1 rfl, below_sets hg [.int .i64 (3 + (n : Int))] 1 _ HG.out.2⟩)
  have HX := HX5
  go_upto_region 27 with fail
  try simp only [hw5]
  clear hw5 HG HX5
  clear u1 y1 hl
  go_wp2_with (first | (refine wpList_load_row rfl 31 (.tmp 7) rfl g rfl 31 #[.int .i64 off, .int .i64 (3 + (n : Int)), .int .i64 sv, .string sn, .string sf, .bool is, .int .i64 y, .int .i64 m, .int .i64 d1, .int .i64 d2, .int .i64 d3, .int .i64 h1, .int .i64 h2] (0, 0) _ HX.out.1 Tryz.underlying31 rfl infoEra ?_) | fail)
  refine (HP.out _ HX.out.2).mono ?_
  rintro e w7 ⟨rfl, hb2⟩
  have HB2 := Lib.hid (show Below w.heap.size w w7 from HX.out.2.trans (hb2.mono HX.out.2.size))
  clear hb2 HX
  go_wp2_with fail
  refine (HW.out _ HB2.out).mono ?_
  rintro e w8 ⟨rfl, hb3⟩
  go_wp2_with fail
  go_ret
  exact ⟨rfl, HB2.out.trans (hb3.mono HB2.out.size)⟩

set_option maxRecDepth 100000 in
set_option maxHeartbeats 1000000 in
theorem eref_2 (D : Array Value) (x n q : Nat) (off kd sv : Int) (sn sf : ByteArray) (is : Bool) (y m d1 d2 d3 h1 h2 : Int) (w : World) (hD : (Tryz.prog.info? 43).map (·.size) = some D.size) (hq : (x : Int) % 12 = (q : Int)) (hqk : q = 2) (hx : x < 256) (hn : n < 65536) (hln : sn.data.toList.length ≤ 30 ∧ sf.data.toList.length ≤ 30)
    (HM : Hid (∀ W, Calls Tryz.prog 15 #[.agg D] W fun e w' => e = .returned (.agg #[.int .i64 off, .int .i64 kd, .int .i64 sv, .string sn, .string sf, .bool is, .int .i64 y, .int .i64 m, .int .i64 d1, .int .i64 d2, .int .i64 d3, .int .i64 h1, .int .i64 h2]) ∧ Below W.heap.size W w')) (HT : Hid (∀ W, Below w.heap.size w W → ETabs W ∧ MaxL W)) :
    Calls Tryz.prog 9 #[.agg D, .int .u8 (x : Int), .int .u16 (n : Int)] w fun e w' => e = .returned (.bool true) ∧ Below w.heap.size w w' := by
  have e0 : ((q : Int) == 0) = false := by rw [beq_eq_false_iff_ne]; omega
  have e1 : ((q : Int) == 1) = false := by rw [beq_eq_false_iff_ne]; omega
  have e2 : ((q : Int) == 2) = true := by rw [beq_iff_eq]; omega
  have HP := Lib.hid (show ∀ W, Below w.heap.size w W → Calls Tryz.prog 13 #[.agg #[.int .i64 off, .int .i64 (-1 - (n : Int)), .int .i64 sv, .string sn, .string sf, .bool is, .int .i64 y, .int .i64 m, .int .i64 d1, .int .i64 d2, .int .i64 d3, .int .i64 h1, .int .i64 h2]] W fun e w' => e = .returned (.tuple #[.string ⟨#[]⟩, .int .i64 2]) ∧ Below W.heap.size W w' from fun W hW => by
    have h := eprint_wrong ⟨off, (-1 - (n : Int)), sv, sn.data.toList, sf.data.toList, ⟨is, y, m, (d1, d2, d3), (h1, h2)⟩⟩ (fun h => by have := h.kind; simp only at this; omega) (by simp only [List.length_nil, List.length_cons]; omega) (by simp only [List.length_nil, List.length_cons]; omega) W (HT.out W hW).1
    simpa [EraP.cells] using h)
  have HW := Lib.hid (fun W hW => eworks_any W (HT.out W hW).1 (HT.out W hW).2)
  clear hqk hln HT
  go_enter Tryz.func9, Tryz.ntmps9
  go_wp2_with (first | (refine wpList_load_row rfl 43 (.tmp 3) rfl w.heap.size rfl 43 D (0, 0) _ (Blk.new _ _ _) Tryz.underlying43 rfl hD ?_) | fail)
  refine (HM.out _).mono ?_
  rintro e w1 ⟨rfl, hb1⟩
  have HB := Lib.hid (show Below w.heap.size w w1 from ((Below.refl _ _).alloc (Nat.le_refl _) _).trans (hb1.mono (by simp)))
  clear hb1
  go_upto_region 2 with fail
  have HG := Lib.hid (And.intro (Blk.new' w1 31 #[.int .i64 off, .int .i64 kd, .int .i64 sv, .string sn, .string sf, .bool is, .int .i64 y, .int .i64 m, .int .i64 d1, .int .i64 d2, .int .i64 d3, .int .i64 h1, .int .i64 h2] rfl) (HB.out.alloc HB.out.size (.cells #[.int .i64 off, .int .i64 kd, .int .i64 sv, .string sn, .string sf, .bool is, .int .i64 y, .int .i64 m, .int .i64 d1, .int .i64 d2, .int .i64 d3, .int .i64 h1, .int .i64 h2] 31)))
  generalize w1.alloc (.cells #[.int .i64 off, .int .i64 kd, .int .i64 sv, .string sn, .string sf, .bool is, .int .i64 y, .int .i64 m, .int .i64 d1, .int .i64 d2, .int .i64 d3, .int .i64 h1, .int .i64 h2] 31) = w2 at *
  have hg : w.heap.size ≤ w1.heap.size := HB.out.size
  clear HB HM hD
  generalize w1.heap.size = g at *
  have u1 : w2.cell? ⟨g, 1, none⟩ = some (.int .i64 kd) := HG.out.1.cell_ rfl
  have y1 := HG.out.1.frozen 1
  have hl := HG.out.1.lt
  obtain ⟨w5, hw5⟩ : ∃ W, (w2.setCell ⟨g, 1, none⟩ (.int .i64 (-1 - (n : Int)))) = W := ⟨_, rfl⟩
  have HX5 := Lib.hid (show Blk w5 g 31 #[.int .i64 off, .int .i64 (-1 - (n : Int)), .int .i64 sv, .string sn, .string sf, .bool is, .int .i64 y, .int .i64 m, .int .i64 d1, .int .i64 d2, .int .i64 d3, .int .i64 h1, .int .i64 h2] ∧ Below w.heap.size w w5 from by
    rw [← hw5]
    exact ⟨Blk.setMid [.int .i64 off] [.int .i64 kd] [.int .i64 (-1 - (n : Int))] [.int .i64 sv, .string sn, .string sf, .bool is, .int .i64 y, .int .i64 m, .int .i64 d1, .int .i64 d2, .int .i64 d3, .int .i64 h1, .int .i64 h2] HG.out.1 rfl, below_sets hg [.int .i64 (-1 - (n : Int))] 1 _ HG.out.2⟩)
  have HX := HX5
  go_upto_region 27 with fail
  try simp only [hw5]
  clear hw5 HG HX5
  clear u1 y1 hl
  go_wp2_with (first | (refine wpList_load_row rfl 31 (.tmp 7) rfl g rfl 31 #[.int .i64 off, .int .i64 (-1 - (n : Int)), .int .i64 sv, .string sn, .string sf, .bool is, .int .i64 y, .int .i64 m, .int .i64 d1, .int .i64 d2, .int .i64 d3, .int .i64 h1, .int .i64 h2] (0, 0) _ HX.out.1 Tryz.underlying31 rfl infoEra ?_) | fail)
  refine (HP.out _ HX.out.2).mono ?_
  rintro e w7 ⟨rfl, hb2⟩
  have HB2 := Lib.hid (show Below w.heap.size w w7 from HX.out.2.trans (hb2.mono HX.out.2.size))
  clear hb2 HX
  go_wp2_with fail
  refine (HW.out _ HB2.out).mono ?_
  rintro e w8 ⟨rfl, hb3⟩
  go_wp2_with fail
  go_ret
  exact ⟨rfl, HB2.out.trans (hb3.mono HB2.out.size)⟩

set_option maxRecDepth 100000 in
set_option maxHeartbeats 1000000 in
theorem eref_3 (D : Array Value) (x n q : Nat) (off kd sv : Int) (sn sf : ByteArray) (is : Bool) (y m d1 d2 d3 h1 h2 : Int) (w : World) (hD : (Tryz.prog.info? 43).map (·.size) = some D.size) (hq : (x : Int) % 12 = (q : Int)) (hqk : q = 3) (hx : x < 256) (hn : n < 65536) (hln : sn.data.toList.length ≤ 30 ∧ sf.data.toList.length ≤ 30)
    (HM : Hid (∀ W, Calls Tryz.prog 15 #[.agg D] W fun e w' => e = .returned (.agg #[.int .i64 off, .int .i64 kd, .int .i64 sv, .string sn, .string sf, .bool is, .int .i64 y, .int .i64 m, .int .i64 d1, .int .i64 d2, .int .i64 d3, .int .i64 h1, .int .i64 h2]) ∧ Below W.heap.size W w')) (HT : Hid (∀ W, Below w.heap.size w W → ETabs W ∧ MaxL W)) :
    Calls Tryz.prog 9 #[.agg D, .int .u8 (x : Int), .int .u16 (n : Int)] w fun e w' => e = .returned (.bool true) ∧ Below w.heap.size w w' := by
  have e0 : ((q : Int) == 0) = false := by rw [beq_eq_false_iff_ne]; omega
  have e1 : ((q : Int) == 1) = false := by rw [beq_eq_false_iff_ne]; omega
  have e2 : ((q : Int) == 2) = false := by rw [beq_eq_false_iff_ne]; omega
  have e3 : ((q : Int) == 3) = true := by rw [beq_iff_eq]; omega
  have HP := Lib.hid (show ∀ W, Below w.heap.size w W → Calls Tryz.prog 13 #[.agg #[.int .i64 off, .int .i64 1, .int .i64 (-604800 - (n : Int)), .string ⟨#[]⟩, .string sf, .bool is, .int .i64 y, .int .i64 m, .int .i64 d1, .int .i64 d2, .int .i64 d3, .int .i64 h1, .int .i64 h2]] W fun e w' => e = .returned (.tuple #[.string ⟨#[]⟩, .int .i64 2]) ∧ Below W.heap.size W w' from fun W hW => by
    have h := eprint_wrong ⟨off, 1, (-604800 - (n : Int)), [], sf.data.toList, ⟨is, y, m, (d1, d2, d3), (h1, h2)⟩⟩ (fun h => by have := h.save1 rfl; simp only at this; omega) (by simp only [List.length_nil, List.length_cons]; omega) (by simp only [List.length_nil, List.length_cons]; omega) W (HT.out W hW).1
    simpa [EraP.cells] using h)
  have HW := Lib.hid (fun W hW => eworks_any W (HT.out W hW).1 (HT.out W hW).2)
  clear hqk hln HT
  go_enter Tryz.func9, Tryz.ntmps9
  go_wp2_with (first | (refine wpList_load_row rfl 43 (.tmp 3) rfl w.heap.size rfl 43 D (0, 0) _ (Blk.new _ _ _) Tryz.underlying43 rfl hD ?_) | fail)
  refine (HM.out _).mono ?_
  rintro e w1 ⟨rfl, hb1⟩
  have HB := Lib.hid (show Below w.heap.size w w1 from ((Below.refl _ _).alloc (Nat.le_refl _) _).trans (hb1.mono (by simp)))
  clear hb1
  go_upto_region 2 with fail
  have HG := Lib.hid (And.intro (Blk.new' w1 31 #[.int .i64 off, .int .i64 kd, .int .i64 sv, .string sn, .string sf, .bool is, .int .i64 y, .int .i64 m, .int .i64 d1, .int .i64 d2, .int .i64 d3, .int .i64 h1, .int .i64 h2] rfl) (HB.out.alloc HB.out.size (.cells #[.int .i64 off, .int .i64 kd, .int .i64 sv, .string sn, .string sf, .bool is, .int .i64 y, .int .i64 m, .int .i64 d1, .int .i64 d2, .int .i64 d3, .int .i64 h1, .int .i64 h2] 31)))
  generalize w1.alloc (.cells #[.int .i64 off, .int .i64 kd, .int .i64 sv, .string sn, .string sf, .bool is, .int .i64 y, .int .i64 m, .int .i64 d1, .int .i64 d2, .int .i64 d3, .int .i64 h1, .int .i64 h2] 31) = w2 at *
  have hg : w.heap.size ≤ w1.heap.size := HB.out.size
  clear HB HM hD
  generalize w1.heap.size = g at *
  have u1 : w2.cell? ⟨g, 1, none⟩ = some (.int .i64 kd) := HG.out.1.cell_ rfl
  have y1 := HG.out.1.frozen 1
  have u2 : w2.cell? ⟨g, 2, none⟩ = some (.int .i64 sv) := HG.out.1.cell_ rfl
  have y2 := HG.out.1.frozen 2
  have u3 : w2.cell? ⟨g, 3, none⟩ = some (.string sn) := HG.out.1.cell_ rfl
  have y3 := HG.out.1.frozen 3
  have hl := HG.out.1.lt
  obtain ⟨w5, hw5⟩ : ∃ W, (((w2.setCell ⟨g, 1, none⟩ (.int .i64 1)).setCell ⟨g, 2, none⟩ (.int .i64 (-604800 - (n : Int)))).setCell ⟨g, 3, none⟩ (.string ⟨#[]⟩)) = W := ⟨_, rfl⟩
  have HX5 := Lib.hid (show Blk w5 g 31 #[.int .i64 off, .int .i64 1, .int .i64 (-604800 - (n : Int)), .string ⟨#[]⟩, .string sf, .bool is, .int .i64 y, .int .i64 m, .int .i64 d1, .int .i64 d2, .int .i64 d3, .int .i64 h1, .int .i64 h2] ∧ Below w.heap.size w w5 from by
    rw [← hw5]
    exact ⟨Blk.setMid [.int .i64 off] [.int .i64 kd, .int .i64 sv, .string sn] [.int .i64 1, .int .i64 (-604800 - (n : Int)), .string ⟨#[]⟩] [.string sf, .bool is, .int .i64 y, .int .i64 m, .int .i64 d1, .int .i64 d2, .int .i64 d3, .int .i64 h1, .int .i64 h2] HG.out.1 rfl, below_sets hg [.int .i64 1, .int .i64 (-604800 - (n : Int)), .string ⟨#[]⟩] 1 _ HG.out.2⟩)
  have HX := HX5
  go_upto_region 27 with fail
  try simp only [hw5]
  clear hw5 HG HX5
  clear u1 y1 u2 y2 u3 y3 hl
  go_wp2_with (first | (refine wpList_load_row rfl 31 (.tmp 7) rfl g rfl 31 #[.int .i64 off, .int .i64 1, .int .i64 (-604800 - (n : Int)), .string ⟨#[]⟩, .string sf, .bool is, .int .i64 y, .int .i64 m, .int .i64 d1, .int .i64 d2, .int .i64 d3, .int .i64 h1, .int .i64 h2] (0, 0) _ HX.out.1 Tryz.underlying31 rfl infoEra ?_) | fail)
  refine (HP.out _ HX.out.2).mono ?_
  rintro e w7 ⟨rfl, hb2⟩
  have HB2 := Lib.hid (show Below w.heap.size w w7 from HX.out.2.trans (hb2.mono HX.out.2.size))
  clear hb2 HX
  go_wp2_with fail
  refine (HW.out _ HB2.out).mono ?_
  rintro e w8 ⟨rfl, hb3⟩
  go_wp2_with fail
  go_ret
  exact ⟨rfl, HB2.out.trans (hb3.mono HB2.out.size)⟩

set_option maxRecDepth 100000 in
set_option maxHeartbeats 1000000 in
theorem eref_4 (D : Array Value) (x n q : Nat) (off kd sv : Int) (sn sf : ByteArray) (is : Bool) (y m d1 d2 d3 h1 h2 : Int) (w : World) (hD : (Tryz.prog.info? 43).map (·.size) = some D.size) (hq : (x : Int) % 12 = (q : Int)) (hqk : q = 4) (hx : x < 256) (hn : n < 65536) (hln : sn.data.toList.length ≤ 30 ∧ sf.data.toList.length ≤ 30)
    (HM : Hid (∀ W, Calls Tryz.prog 15 #[.agg D] W fun e w' => e = .returned (.agg #[.int .i64 off, .int .i64 kd, .int .i64 sv, .string sn, .string sf, .bool is, .int .i64 y, .int .i64 m, .int .i64 d1, .int .i64 d2, .int .i64 d3, .int .i64 h1, .int .i64 h2]) ∧ Below W.heap.size W w')) (HT : Hid (∀ W, Below w.heap.size w W → ETabs W ∧ MaxL W)) :
    Calls Tryz.prog 9 #[.agg D, .int .u8 (x : Int), .int .u16 (n : Int)] w fun e w' => e = .returned (.bool true) ∧ Below w.heap.size w w' := by
  have e0 : ((q : Int) == 0) = false := by rw [beq_eq_false_iff_ne]; omega
  have e1 : ((q : Int) == 1) = false := by rw [beq_eq_false_iff_ne]; omega
  have e2 : ((q : Int) == 2) = false := by rw [beq_eq_false_iff_ne]; omega
  have e3 : ((q : Int) == 3) = false := by rw [beq_eq_false_iff_ne]; omega
  have e4 : ((q : Int) == 4) = true := by rw [beq_iff_eq]; omega
  have HP := Lib.hid (show ∀ W, Below w.heap.size w W → Calls Tryz.prog 13 #[.agg #[.int .i64 off, .int .i64 0, .int .i64 (1 + (n : Int)), .string ⟨#[]⟩, .string sf, .bool is, .int .i64 y, .int .i64 m, .int .i64 d1, .int .i64 d2, .int .i64 d3, .int .i64 h1, .int .i64 h2]] W fun e w' => e = .returned (.tuple #[.string ⟨#[]⟩, .int .i64 2]) ∧ Below W.heap.size W w' from fun W hW => by
    have h := eprint_wrong ⟨off, 0, (1 + (n : Int)), [], sf.data.toList, ⟨is, y, m, (d1, d2, d3), (h1, h2)⟩⟩ (fun h => by have := h.save0 (show ¬ (0 : Int) = 1 by decide); simp only at this; omega) (by simp only [List.length_nil, List.length_cons]; omega) (by simp only [List.length_nil, List.length_cons]; omega) W (HT.out W hW).1
    simpa [EraP.cells] using h)
  have HW := Lib.hid (fun W hW => eworks_any W (HT.out W hW).1 (HT.out W hW).2)
  clear hqk hln HT
  go_enter Tryz.func9, Tryz.ntmps9
  go_wp2_with (first | (refine wpList_load_row rfl 43 (.tmp 3) rfl w.heap.size rfl 43 D (0, 0) _ (Blk.new _ _ _) Tryz.underlying43 rfl hD ?_) | fail)
  refine (HM.out _).mono ?_
  rintro e w1 ⟨rfl, hb1⟩
  have HB := Lib.hid (show Below w.heap.size w w1 from ((Below.refl _ _).alloc (Nat.le_refl _) _).trans (hb1.mono (by simp)))
  clear hb1
  go_upto_region 2 with fail
  have HG := Lib.hid (And.intro (Blk.new' w1 31 #[.int .i64 off, .int .i64 kd, .int .i64 sv, .string sn, .string sf, .bool is, .int .i64 y, .int .i64 m, .int .i64 d1, .int .i64 d2, .int .i64 d3, .int .i64 h1, .int .i64 h2] rfl) (HB.out.alloc HB.out.size (.cells #[.int .i64 off, .int .i64 kd, .int .i64 sv, .string sn, .string sf, .bool is, .int .i64 y, .int .i64 m, .int .i64 d1, .int .i64 d2, .int .i64 d3, .int .i64 h1, .int .i64 h2] 31)))
  generalize w1.alloc (.cells #[.int .i64 off, .int .i64 kd, .int .i64 sv, .string sn, .string sf, .bool is, .int .i64 y, .int .i64 m, .int .i64 d1, .int .i64 d2, .int .i64 d3, .int .i64 h1, .int .i64 h2] 31) = w2 at *
  have hg : w.heap.size ≤ w1.heap.size := HB.out.size
  clear HB HM hD
  generalize w1.heap.size = g at *
  have u1 : w2.cell? ⟨g, 1, none⟩ = some (.int .i64 kd) := HG.out.1.cell_ rfl
  have y1 := HG.out.1.frozen 1
  have u2 : w2.cell? ⟨g, 2, none⟩ = some (.int .i64 sv) := HG.out.1.cell_ rfl
  have y2 := HG.out.1.frozen 2
  have u3 : w2.cell? ⟨g, 3, none⟩ = some (.string sn) := HG.out.1.cell_ rfl
  have y3 := HG.out.1.frozen 3
  have hl := HG.out.1.lt
  obtain ⟨w5, hw5⟩ : ∃ W, (((w2.setCell ⟨g, 1, none⟩ (.int .i64 0)).setCell ⟨g, 2, none⟩ (.int .i64 (1 + (n : Int)))).setCell ⟨g, 3, none⟩ (.string ⟨#[]⟩)) = W := ⟨_, rfl⟩
  have HX5 := Lib.hid (show Blk w5 g 31 #[.int .i64 off, .int .i64 0, .int .i64 (1 + (n : Int)), .string ⟨#[]⟩, .string sf, .bool is, .int .i64 y, .int .i64 m, .int .i64 d1, .int .i64 d2, .int .i64 d3, .int .i64 h1, .int .i64 h2] ∧ Below w.heap.size w w5 from by
    rw [← hw5]
    exact ⟨Blk.setMid [.int .i64 off] [.int .i64 kd, .int .i64 sv, .string sn] [.int .i64 0, .int .i64 (1 + (n : Int)), .string ⟨#[]⟩] [.string sf, .bool is, .int .i64 y, .int .i64 m, .int .i64 d1, .int .i64 d2, .int .i64 d3, .int .i64 h1, .int .i64 h2] HG.out.1 rfl, below_sets hg [.int .i64 0, .int .i64 (1 + (n : Int)), .string ⟨#[]⟩] 1 _ HG.out.2⟩)
  have HX := HX5
  go_upto_region 27 with fail
  try simp only [hw5]
  clear hw5 HG HX5
  clear u1 y1 u2 y2 u3 y3 hl
  go_wp2_with (first | (refine wpList_load_row rfl 31 (.tmp 7) rfl g rfl 31 #[.int .i64 off, .int .i64 0, .int .i64 (1 + (n : Int)), .string ⟨#[]⟩, .string sf, .bool is, .int .i64 y, .int .i64 m, .int .i64 d1, .int .i64 d2, .int .i64 d3, .int .i64 h1, .int .i64 h2] (0, 0) _ HX.out.1 Tryz.underlying31 rfl infoEra ?_) | fail)
  refine (HP.out _ HX.out.2).mono ?_
  rintro e w7 ⟨rfl, hb2⟩
  have HB2 := Lib.hid (show Below w.heap.size w w7 from HX.out.2.trans (hb2.mono HX.out.2.size))
  clear hb2 HX
  go_wp2_with fail
  refine (HW.out _ HB2.out).mono ?_
  rintro e w8 ⟨rfl, hb3⟩
  go_wp2_with fail
  go_ret
  exact ⟨rfl, HB2.out.trans (hb3.mono HB2.out.size)⟩

set_option maxRecDepth 100000 in
set_option maxHeartbeats 1000000 in
theorem eref_5 (D : Array Value) (x n q : Nat) (off kd sv : Int) (sn sf : ByteArray) (is : Bool) (y m d1 d2 d3 h1 h2 : Int) (w : World) (hD : (Tryz.prog.info? 43).map (·.size) = some D.size) (hq : (x : Int) % 12 = (q : Int)) (hqk : q = 5) (hx : x < 256) (hn : n < 65536) (hln : sn.data.toList.length ≤ 30 ∧ sf.data.toList.length ≤ 30)
    (HM : Hid (∀ W, Calls Tryz.prog 15 #[.agg D] W fun e w' => e = .returned (.agg #[.int .i64 off, .int .i64 kd, .int .i64 sv, .string sn, .string sf, .bool is, .int .i64 y, .int .i64 m, .int .i64 d1, .int .i64 d2, .int .i64 d3, .int .i64 h1, .int .i64 h2]) ∧ Below W.heap.size W w')) (HT : Hid (∀ W, Below w.heap.size w W → ETabs W ∧ MaxL W)) :
    Calls Tryz.prog 9 #[.agg D, .int .u8 (x : Int), .int .u16 (n : Int)] w fun e w' => e = .returned (.bool true) ∧ Below w.heap.size w w' := by
  have e0 : ((q : Int) == 0) = false := by rw [beq_eq_false_iff_ne]; omega
  have e1 : ((q : Int) == 1) = false := by rw [beq_eq_false_iff_ne]; omega
  have e2 : ((q : Int) == 2) = false := by rw [beq_eq_false_iff_ne]; omega
  have e3 : ((q : Int) == 3) = false := by rw [beq_eq_false_iff_ne]; omega
  have e4 : ((q : Int) == 4) = false := by rw [beq_eq_false_iff_ne]; omega
  have e5 : ((q : Int) == 5) = true := by rw [beq_iff_eq]; omega
  have HP := Lib.hid (show ∀ W, Below w.heap.size w W → Calls Tryz.prog 13 #[.agg #[.int .i64 off, .int .i64 1, .int .i64 0, .string ⟨#[82]⟩, .string sf, .bool is, .int .i64 y, .int .i64 m, .int .i64 d1, .int .i64 d2, .int .i64 d3, .int .i64 h1, .int .i64 h2]] W fun e w' => e = .returned (.tuple #[.string ⟨#[]⟩, .int .i64 2]) ∧ Below W.heap.size W w' from fun W hW => by
    have h := eprint_wrong ⟨off, 1, 0, [82], sf.data.toList, ⟨is, y, m, (d1, d2, d3), (h1, h2)⟩⟩ (fun h => by exact absurd (h.set0 (show ¬ (1 : Int) = 2 by decide)) (show ¬ ([82] : List UInt8) = [] by decide)) (by simp only [List.length_nil, List.length_cons]; omega) (by simp only [List.length_nil, List.length_cons]; omega) W (HT.out W hW).1
    simpa [EraP.cells] using h)
  have HW := Lib.hid (fun W hW => eworks_any W (HT.out W hW).1 (HT.out W hW).2)
  clear hqk hln HT
  go_enter Tryz.func9, Tryz.ntmps9
  go_wp2_with (first | (refine wpList_load_row rfl 43 (.tmp 3) rfl w.heap.size rfl 43 D (0, 0) _ (Blk.new _ _ _) Tryz.underlying43 rfl hD ?_) | fail)
  refine (HM.out _).mono ?_
  rintro e w1 ⟨rfl, hb1⟩
  have HB := Lib.hid (show Below w.heap.size w w1 from ((Below.refl _ _).alloc (Nat.le_refl _) _).trans (hb1.mono (by simp)))
  clear hb1
  go_upto_region 2 with fail
  have HG := Lib.hid (And.intro (Blk.new' w1 31 #[.int .i64 off, .int .i64 kd, .int .i64 sv, .string sn, .string sf, .bool is, .int .i64 y, .int .i64 m, .int .i64 d1, .int .i64 d2, .int .i64 d3, .int .i64 h1, .int .i64 h2] rfl) (HB.out.alloc HB.out.size (.cells #[.int .i64 off, .int .i64 kd, .int .i64 sv, .string sn, .string sf, .bool is, .int .i64 y, .int .i64 m, .int .i64 d1, .int .i64 d2, .int .i64 d3, .int .i64 h1, .int .i64 h2] 31)))
  generalize w1.alloc (.cells #[.int .i64 off, .int .i64 kd, .int .i64 sv, .string sn, .string sf, .bool is, .int .i64 y, .int .i64 m, .int .i64 d1, .int .i64 d2, .int .i64 d3, .int .i64 h1, .int .i64 h2] 31) = w2 at *
  have hg : w.heap.size ≤ w1.heap.size := HB.out.size
  clear HB HM hD
  generalize w1.heap.size = g at *
  have u1 : w2.cell? ⟨g, 1, none⟩ = some (.int .i64 kd) := HG.out.1.cell_ rfl
  have y1 := HG.out.1.frozen 1
  have u2 : w2.cell? ⟨g, 2, none⟩ = some (.int .i64 sv) := HG.out.1.cell_ rfl
  have y2 := HG.out.1.frozen 2
  have u3 : w2.cell? ⟨g, 3, none⟩ = some (.string sn) := HG.out.1.cell_ rfl
  have y3 := HG.out.1.frozen 3
  have hl := HG.out.1.lt
  obtain ⟨w5, hw5⟩ : ∃ W, (((w2.setCell ⟨g, 1, none⟩ (.int .i64 1)).setCell ⟨g, 2, none⟩ (.int .i64 0)).setCell ⟨g, 3, none⟩ (.string ⟨#[82]⟩)) = W := ⟨_, rfl⟩
  have HX5 := Lib.hid (show Blk w5 g 31 #[.int .i64 off, .int .i64 1, .int .i64 0, .string ⟨#[82]⟩, .string sf, .bool is, .int .i64 y, .int .i64 m, .int .i64 d1, .int .i64 d2, .int .i64 d3, .int .i64 h1, .int .i64 h2] ∧ Below w.heap.size w w5 from by
    rw [← hw5]
    exact ⟨Blk.setMid [.int .i64 off] [.int .i64 kd, .int .i64 sv, .string sn] [.int .i64 1, .int .i64 0, .string ⟨#[82]⟩] [.string sf, .bool is, .int .i64 y, .int .i64 m, .int .i64 d1, .int .i64 d2, .int .i64 d3, .int .i64 h1, .int .i64 h2] HG.out.1 rfl, below_sets hg [.int .i64 1, .int .i64 0, .string ⟨#[82]⟩] 1 _ HG.out.2⟩)
  have HX := HX5
  go_upto_region 27 with fail
  try simp only [hw5]
  clear hw5 HG HX5
  clear u1 y1 u2 y2 u3 y3 hl
  go_wp2_with (first | (refine wpList_load_row rfl 31 (.tmp 7) rfl g rfl 31 #[.int .i64 off, .int .i64 1, .int .i64 0, .string ⟨#[82]⟩, .string sf, .bool is, .int .i64 y, .int .i64 m, .int .i64 d1, .int .i64 d2, .int .i64 d3, .int .i64 h1, .int .i64 h2] (0, 0) _ HX.out.1 Tryz.underlying31 rfl infoEra ?_) | fail)
  refine (HP.out _ HX.out.2).mono ?_
  rintro e w7 ⟨rfl, hb2⟩
  have HB2 := Lib.hid (show Below w.heap.size w w7 from HX.out.2.trans (hb2.mono HX.out.2.size))
  clear hb2 HX
  go_wp2_with fail
  refine (HW.out _ HB2.out).mono ?_
  rintro e w8 ⟨rfl, hb3⟩
  go_wp2_with fail
  go_ret
  exact ⟨rfl, HB2.out.trans (hb3.mono HB2.out.size)⟩

set_option maxRecDepth 100000 in
set_option maxHeartbeats 1000000 in
theorem eref_6 (D : Array Value) (x n q : Nat) (off kd sv : Int) (sn sf : ByteArray) (is : Bool) (y m d1 d2 d3 h1 h2 : Int) (w : World) (hD : (Tryz.prog.info? 43).map (·.size) = some D.size) (hq : (x : Int) % 12 = (q : Int)) (hqk : q = 6) (hx : x < 256) (hn : n < 65536) (hln : sn.data.toList.length ≤ 30 ∧ sf.data.toList.length ≤ 30)
    (HM : Hid (∀ W, Calls Tryz.prog 15 #[.agg D] W fun e w' => e = .returned (.agg #[.int .i64 off, .int .i64 kd, .int .i64 sv, .string sn, .string sf, .bool is, .int .i64 y, .int .i64 m, .int .i64 d1, .int .i64 d2, .int .i64 d3, .int .i64 h1, .int .i64 h2]) ∧ Below W.heap.size W w')) (HT : Hid (∀ W, Below w.heap.size w W → ETabs W ∧ MaxL W)) :
    Calls Tryz.prog 9 #[.agg D, .int .u8 (x : Int), .int .u16 (n : Int)] w fun e w' => e = .returned (.bool true) ∧ Below w.heap.size w w' := by
  obtain ⟨i, hi⟩ : ∃ i, n % 4 = i := ⟨_, rfl⟩
  have hi4 : i < 4 := by omega
  have hiA : (0 : Int) ≤ (i : Int) := by omega
  have hiB : (i : Int) < 4 := by omega
  have hiI : (n : Int) % 4 = (i : Int) := by omega
  have hiT : (n : Int).tmod 4 = (i : Int) := by rw [Int.tmod_eq_emod_of_nonneg (by omega)]; exact hiI
  obtain ⟨sx, hsx⟩ : ∃ sx : ByteArray, (#[⟨#[]⟩, ⟨#[49]⟩, ⟨#[82, 32, 82]⟩, ⟨#[45]⟩] : Array ByteArray)[i]? = some sx := ⟨_, Array.getElem?_eq_getElem (by simpa using hi4)⟩
  have hsl : sx.data.toList = ([[], [49], [82, 32, 82], [45]] : List (List UInt8)).getD i [] := by rcases (by omega : i = 0 ∨ i = 1 ∨ i = 2 ∨ i = 3) with rfl | rfl | rfl | rfl <;> cases hsx <;> rfl
  have hc : ([.string ⟨#[]⟩, .string ⟨#[49]⟩, .string ⟨#[82, 32, 82]⟩, .string ⟨#[45]⟩] : List Value)[i]? = some (.string sx) := by
    rcases (by omega : i = 0 ∨ i = 1 ∨ i = 2 ∨ i = 3) with rfl | rfl | rfl | rfl <;> cases hsx <;> rfl
  have hcE : ∀ h, ([.string ⟨#[]⟩, .string ⟨#[49]⟩, .string ⟨#[82, 32, 82]⟩, .string ⟨#[45]⟩] : List Value)[i]'h = .string sx := fun h => by
    rw [List.getElem?_eq_getElem h] at hc; exact Option.some.inj hc
  have hlen : sx.data.toList.length ≤ 30 := by rw [hsl]; rcases (by omega : i = 0 ∨ i = 1 ∨ i = 2 ∨ i = 3) with rfl | rfl | rfl | rfl <;> decide
  have e0 : ((q : Int) == 0) = false := by rw [beq_eq_false_iff_ne]; omega
  have e1 : ((q : Int) == 1) = false := by rw [beq_eq_false_iff_ne]; omega
  have e2 : ((q : Int) == 2) = false := by rw [beq_eq_false_iff_ne]; omega
  have e3 : ((q : Int) == 3) = false := by rw [beq_eq_false_iff_ne]; omega
  have e4 : ((q : Int) == 4) = false := by rw [beq_eq_false_iff_ne]; omega
  have e5 : ((q : Int) == 5) = false := by rw [beq_eq_false_iff_ne]; omega
  have e6 : ((q : Int) == 6) = true := by rw [beq_iff_eq]; omega
  have HP := Lib.hid (show ∀ W, Below w.heap.size w W → Calls Tryz.prog 13 #[.agg #[.int .i64 off, .int .i64 2, .int .i64 0, .string sx, .string sf, .bool is, .int .i64 y, .int .i64 m, .int .i64 d1, .int .i64 d2, .int .i64 d3, .int .i64 h1, .int .i64 h2]] W fun e w' => e = .returned (.tuple #[.string ⟨#[]⟩, .int .i64 2]) ∧ Below W.heap.size W w' from fun W hW => by
    have h := eprint_wrong ⟨off, 2, 0, sx.data.toList, sf.data.toList, ⟨is, y, m, (d1, d2, d3), (h1, h2)⟩⟩ (fun h => by have h1 := h.set2 rfl; simp only [hsl] at h1; rw [ebad_set ⟨i, hi4⟩] at h1; cases h1) (by simp only [List.length_nil, List.length_cons]; omega) (by simp only [List.length_nil, List.length_cons]; omega) W (HT.out W hW).1
    simpa [EraP.cells] using h)
  have HW := Lib.hid (fun W hW => eworks_any W (HT.out W hW).1 (HT.out W hW).2)
  clear hqk hln HT hsl hi hsx hlen
  go_enter Tryz.func9, Tryz.ntmps9
  go_wp2_with (first | (refine wpList_load_row rfl 43 (.tmp 3) rfl w.heap.size rfl 43 D (0, 0) _ (Blk.new _ _ _) Tryz.underlying43 rfl hD ?_) | fail)
  refine (HM.out _).mono ?_
  rintro e w1 ⟨rfl, hb1⟩
  have HB := Lib.hid (show Below w.heap.size w w1 from ((Below.refl _ _).alloc (Nat.le_refl _) _).trans (hb1.mono (by simp)))
  clear hb1
  go_upto_region 2 with fail
  have HG := Lib.hid (And.intro (Blk.new' w1 31 #[.int .i64 off, .int .i64 kd, .int .i64 sv, .string sn, .string sf, .bool is, .int .i64 y, .int .i64 m, .int .i64 d1, .int .i64 d2, .int .i64 d3, .int .i64 h1, .int .i64 h2] rfl) (HB.out.alloc HB.out.size (.cells #[.int .i64 off, .int .i64 kd, .int .i64 sv, .string sn, .string sf, .bool is, .int .i64 y, .int .i64 m, .int .i64 d1, .int .i64 d2, .int .i64 d3, .int .i64 h1, .int .i64 h2] 31)))
  generalize w1.alloc (.cells #[.int .i64 off, .int .i64 kd, .int .i64 sv, .string sn, .string sf, .bool is, .int .i64 y, .int .i64 m, .int .i64 d1, .int .i64 d2, .int .i64 d3, .int .i64 h1, .int .i64 h2] 31) = w2 at *
  have hg : w.heap.size ≤ w1.heap.size := HB.out.size
  clear HB HM hD
  generalize w1.heap.size = g at *
  have u1 : w2.cell? ⟨g, 1, none⟩ = some (.int .i64 kd) := HG.out.1.cell_ rfl
  have y1 := HG.out.1.frozen 1
  have u2 : w2.cell? ⟨g, 2, none⟩ = some (.int .i64 sv) := HG.out.1.cell_ rfl
  have y2 := HG.out.1.frozen 2
  have u3 : w2.cell? ⟨g, 3, none⟩ = some (.string sn) := HG.out.1.cell_ rfl
  have y3 := HG.out.1.frozen 3
  have hl := HG.out.1.lt
  obtain ⟨w5, hw5⟩ : ∃ W, (((w2.setCell ⟨g, 1, none⟩ (.int .i64 2)).setCell ⟨g, 2, none⟩ (.int .i64 0)).setCell ⟨g, 3, none⟩ (.string sx)) = W := ⟨_, rfl⟩
  have HX5 := Lib.hid (show Blk w5 g 31 #[.int .i64 off, .int .i64 2, .int .i64 0, .string sx, .string sf, .bool is, .int .i64 y, .int .i64 m, .int .i64 d1, .int .i64 d2, .int .i64 d3, .int .i64 h1, .int .i64 h2] ∧ Below w.heap.size w w5 from by
    rw [← hw5]
    exact ⟨Blk.setMid [.int .i64 off] [.int .i64 kd, .int .i64 sv, .string sn] [.int .i64 2, .int .i64 0, .string sx] [.string sf, .bool is, .int .i64 y, .int .i64 m, .int .i64 d1, .int .i64 d2, .int .i64 d3, .int .i64 h1, .int .i64 h2] HG.out.1 rfl, below_sets hg [.int .i64 2, .int .i64 0, .string sx] 1 _ HG.out.2⟩)
  obtain ⟨w6, hw6⟩ : ∃ W, w5.alloc (.cells #[.string ⟨#[]⟩, .string ⟨#[49]⟩, .string ⟨#[82, 32, 82]⟩, .string ⟨#[45]⟩] 9) = W := ⟨_, rfl⟩
  have HX := Lib.hid (show Blk w6 g 31 #[.int .i64 off, .int .i64 2, .int .i64 0, .string sx, .string sf, .bool is, .int .i64 y, .int .i64 m, .int .i64 d1, .int .i64 d2, .int .i64 d3, .int .i64 h1, .int .i64 h2] ∧ Below w.heap.size w w6 from by
    rw [← hw6]
    exact ⟨HX5.out.1.alloc _, rbelow_alloc HX5.out.2 _⟩)
  go_upto_region 18 with fail
  go_region
  go_upto_region 27 with fail
  try simp only [hw5]
  try simp only [hw6]
  clear hw5 hw6 HG HX5
  clear u1 y1 u2 y2 u3 y3 hl
  go_wp2_with (first | (refine wpList_load_row rfl 31 (.tmp 7) rfl g rfl 31 #[.int .i64 off, .int .i64 2, .int .i64 0, .string sx, .string sf, .bool is, .int .i64 y, .int .i64 m, .int .i64 d1, .int .i64 d2, .int .i64 d3, .int .i64 h1, .int .i64 h2] (0, 0) _ HX.out.1 Tryz.underlying31 rfl infoEra ?_) | fail)
  refine (HP.out _ HX.out.2.drew).mono ?_
  rintro e w7 ⟨rfl, hb2⟩
  have HB2 := Lib.hid (show Below w.heap.size w w7 from HX.out.2.drew.trans (hb2.mono HX.out.2.drew.size))
  clear hb2 HX
  go_wp2_with fail
  refine (HW.out _ HB2.out).mono ?_
  rintro e w8 ⟨rfl, hb3⟩
  go_wp2_with fail
  go_ret
  exact ⟨rfl, HB2.out.trans (hb3.mono HB2.out.size)⟩

set_option maxRecDepth 100000 in
set_option maxHeartbeats 1000000 in
theorem eref_7 (D : Array Value) (x n q : Nat) (off kd sv : Int) (sn sf : ByteArray) (is : Bool) (y m d1 d2 d3 h1 h2 : Int) (w : World) (hD : (Tryz.prog.info? 43).map (·.size) = some D.size) (hq : (x : Int) % 12 = (q : Int)) (hqk : q = 7) (hx : x < 256) (hn : n < 65536) (hln : sn.data.toList.length ≤ 30 ∧ sf.data.toList.length ≤ 30)
    (HM : Hid (∀ W, Calls Tryz.prog 15 #[.agg D] W fun e w' => e = .returned (.agg #[.int .i64 off, .int .i64 kd, .int .i64 sv, .string sn, .string sf, .bool is, .int .i64 y, .int .i64 m, .int .i64 d1, .int .i64 d2, .int .i64 d3, .int .i64 h1, .int .i64 h2]) ∧ Below W.heap.size W w')) (HT : Hid (∀ W, Below w.heap.size w W → ETabs W ∧ MaxL W)) :
    Calls Tryz.prog 9 #[.agg D, .int .u8 (x : Int), .int .u16 (n : Int)] w fun e w' => e = .returned (.bool true) ∧ Below w.heap.size w w' := by
  obtain ⟨i, hi⟩ : ∃ i, n % 6 = i := ⟨_, rfl⟩
  have hi6 : i < 6 := by omega
  have hiA : (0 : Int) ≤ (i : Int) := by omega
  have hiB : (i : Int) < 6 := by omega
  have hiI : (n : Int) % 6 = (i : Int) := by omega
  have hiT : (n : Int).tmod 6 = (i : Int) := by rw [Int.tmod_eq_emod_of_nonneg (by omega)]; exact hiI
  obtain ⟨s21, hs21⟩ : ∃ s21 : ByteArray, (⟨(List.replicate 21 120).toArray⟩ : ByteArray) = s21 := ⟨_, rfl⟩
  obtain ⟨sx, hsx⟩ : ∃ sx : ByteArray, (#[⟨#[]⟩, ⟨#[65, 32, 66]⟩, ⟨#[34]⟩, ⟨#[35]⟩, ⟨#[10]⟩, s21] : Array ByteArray)[i]? = some sx := ⟨_, Array.getElem?_eq_getElem (by simpa using hi6)⟩
  have hsl : sx.data.toList = ([[], [65, 32, 66], [34], [35], [10], List.replicate 21 120] : List (List UInt8)).getD i [] := by
    subst hs21
    rcases (by omega : i = 0 ∨ i = 1 ∨ i = 2 ∨ i = 3 ∨ i = 4 ∨ i = 5) with rfl | rfl | rfl | rfl | rfl | rfl <;> cases hsx <;> rfl
  have hc : ∀ W : World, (W.alloc (.cells #[.string ⟨#[]⟩, .string ⟨#[65, 32, 66]⟩, .string ⟨#[34]⟩, .string ⟨#[35]⟩, .string ⟨#[10]⟩, .string s21] 9)).cell? ⟨W.heap.size, i, none⟩ = some (.string sx) := fun W => cells_of6 W _ _ _ _ _ _ i sx hsx
  have hlen : sx.data.toList.length ≤ 30 := by rw [hsl]; rcases (by omega : i = 0 ∨ i = 1 ∨ i = 2 ∨ i = 3 ∨ i = 4 ∨ i = 5) with rfl | rfl | rfl | rfl | rfl | rfl <;> decide
  have HRp := Lib.hid (show ∀ W, Calls Tryz.prog 17 #[.string ⟨#[120]⟩, .int .i64 21] W fun e w' => e = .returned (.string s21) ∧ Below W.heap.size W w' from fun W => hs21 ▸ repeat_any W)
  have e0 : ((q : Int) == 0) = false := by rw [beq_eq_false_iff_ne]; omega
  have e1 : ((q : Int) == 1) = false := by rw [beq_eq_false_iff_ne]; omega
  have e2 : ((q : Int) == 2) = false := by rw [beq_eq_false_iff_ne]; omega
  have e3 : ((q : Int) == 3) = false := by rw [beq_eq_false_iff_ne]; omega
  have e4 : ((q : Int) == 4) = false := by rw [beq_eq_false_iff_ne]; omega
  have e5 : ((q : Int) == 5) = false := by rw [beq_eq_false_iff_ne]; omega
  have e6 : ((q : Int) == 6) = false := by rw [beq_eq_false_iff_ne]; omega
  have e7 : ((q : Int) == 7) = true := by rw [beq_iff_eq]; omega
  have HP := Lib.hid (show ∀ W, Below w.heap.size w W → Calls Tryz.prog 13 #[.agg #[.int .i64 off, .int .i64 kd, .int .i64 sv, .string sn, .string sx, .bool is, .int .i64 y, .int .i64 m, .int .i64 d1, .int .i64 d2, .int .i64 d3, .int .i64 h1, .int .i64 h2]] W fun e w' => e = .returned (.tuple #[.string ⟨#[]⟩, .int .i64 2]) ∧ Below W.heap.size W w' from fun W hW => by
    have h := eprint_wrong ⟨off, kd, sv, sn.data.toList, sx.data.toList, ⟨is, y, m, (d1, d2, d3), (h1, h2)⟩⟩ (fun h => by have h1 := h.fmt; simp only [hsl] at h1; rw [ebad_fmt ⟨i, hi6⟩] at h1; cases h1) (by simp only [List.length_nil, List.length_cons]; omega) (by simp only [List.length_nil, List.length_cons]; omega) W (HT.out W hW).1
    simpa [EraP.cells] using h)
  have HW := Lib.hid (fun W hW => eworks_any W (HT.out W hW).1 (HT.out W hW).2)
  clear hqk hln HT hsl hi hsx hlen hs21
  go_enter Tryz.func9, Tryz.ntmps9
  go_wp2_with (first | (refine wpList_load_row rfl 43 (.tmp 3) rfl w.heap.size rfl 43 D (0, 0) _ (Blk.new _ _ _) Tryz.underlying43 rfl hD ?_) | fail)
  refine (HM.out _).mono ?_
  rintro e w1 ⟨rfl, hb1⟩
  have HB := Lib.hid (show Below w.heap.size w w1 from ((Below.refl _ _).alloc (Nat.le_refl _) _).trans (hb1.mono (by simp)))
  clear hb1
  go_upto_region 2 with fail
  have HG := Lib.hid (And.intro (Blk.new' w1 31 #[.int .i64 off, .int .i64 kd, .int .i64 sv, .string sn, .string sf, .bool is, .int .i64 y, .int .i64 m, .int .i64 d1, .int .i64 d2, .int .i64 d3, .int .i64 h1, .int .i64 h2] rfl) (HB.out.alloc HB.out.size (.cells #[.int .i64 off, .int .i64 kd, .int .i64 sv, .string sn, .string sf, .bool is, .int .i64 y, .int .i64 m, .int .i64 d1, .int .i64 d2, .int .i64 d3, .int .i64 h1, .int .i64 h2] 31)))
  generalize w1.alloc (.cells #[.int .i64 off, .int .i64 kd, .int .i64 sv, .string sn, .string sf, .bool is, .int .i64 y, .int .i64 m, .int .i64 d1, .int .i64 d2, .int .i64 d3, .int .i64 h1, .int .i64 h2] 31) = w2 at *
  have hg : w.heap.size ≤ w1.heap.size := HB.out.size
  clear HB HM hD
  generalize w1.heap.size = g at *
  go_wp2_with fail
  refine (HRp.out _).mono ?_
  rintro e w9 ⟨rfl, hb9⟩
  have HG9 := Lib.hid (And.intro (HG.out.1.below hb9 HG.out.1.lt) (HG.out.2.trans (hb9.mono HG.out.2.size)))
  clear HG hb9
  have u4 : w9.cell? ⟨g, 4, none⟩ = some (.string sf) := HG9.out.1.cell_ rfl
  have y4 := HG9.out.1.frozen 4
  have hl := HG9.out.1.lt
  obtain ⟨w5, hw5⟩ : ∃ W, (w9.setCell ⟨g, 4, none⟩ (.string sx)) = W := ⟨_, rfl⟩
  have HX5 := Lib.hid (show Blk w5 g 31 #[.int .i64 off, .int .i64 kd, .int .i64 sv, .string sn, .string sx, .bool is, .int .i64 y, .int .i64 m, .int .i64 d1, .int .i64 d2, .int .i64 d3, .int .i64 h1, .int .i64 h2] ∧ Below w.heap.size w w5 from by
    rw [← hw5]
    exact ⟨Blk.setMid [.int .i64 off, .int .i64 kd, .int .i64 sv, .string sn] [.string sf] [.string sx] [.bool is, .int .i64 y, .int .i64 m, .int .i64 d1, .int .i64 d2, .int .i64 d3, .int .i64 h1, .int .i64 h2] HG9.out.1 rfl, below_sets hg [.string sx] 4 _ HG9.out.2⟩)
  obtain ⟨w6, hw6⟩ : ∃ W, w5.alloc (.cells #[.string ⟨#[]⟩, .string ⟨#[65, 32, 66]⟩, .string ⟨#[34]⟩, .string ⟨#[35]⟩, .string ⟨#[10]⟩, .string s21] 9) = W := ⟨_, rfl⟩
  have HX := Lib.hid (show Blk w6 g 31 #[.int .i64 off, .int .i64 kd, .int .i64 sv, .string sn, .string sx, .bool is, .int .i64 y, .int .i64 m, .int .i64 d1, .int .i64 d2, .int .i64 d3, .int .i64 h1, .int .i64 h2] ∧ Below w.heap.size w w6 from by
    rw [← hw6]
    exact ⟨HX5.out.1.alloc _, rbelow_alloc HX5.out.2 _⟩)
  go_upto_region 27 with fail
  try simp only [hw5]
  try simp only [hw6]
  clear hw5 hw6 HG9 HX5
  clear u4 y4 hl
  go_wp2_with (first | (refine wpList_load_row rfl 31 (.tmp 7) rfl g rfl 31 #[.int .i64 off, .int .i64 kd, .int .i64 sv, .string sn, .string sx, .bool is, .int .i64 y, .int .i64 m, .int .i64 d1, .int .i64 d2, .int .i64 d3, .int .i64 h1, .int .i64 h2] (0, 0) _ HX.out.1 Tryz.underlying31 rfl infoEra ?_) | fail)
  refine (HP.out _ HX.out.2).mono ?_
  rintro e w7 ⟨rfl, hb2⟩
  have HB2 := Lib.hid (show Below w.heap.size w w7 from HX.out.2.trans (hb2.mono HX.out.2.size))
  clear hb2 HX
  go_wp2_with fail
  refine (HW.out _ HB2.out).mono ?_
  rintro e w8 ⟨rfl, hb3⟩
  go_wp2_with fail
  go_ret
  exact ⟨rfl, HB2.out.trans (hb3.mono HB2.out.size)⟩

set_option maxRecDepth 100000 in
set_option maxHeartbeats 1000000 in
theorem eref_8 (D : Array Value) (x n q : Nat) (off kd sv : Int) (sn sf : ByteArray) (is : Bool) (y m d1 d2 d3 h1 h2 : Int) (w : World) (hD : (Tryz.prog.info? 43).map (·.size) = some D.size) (hq : (x : Int) % 12 = (q : Int)) (hqk : q = 8) (hx : x < 256) (hn : n < 65536) (hln : sn.data.toList.length ≤ 30 ∧ sf.data.toList.length ≤ 30)
    (HM : Hid (∀ W, Calls Tryz.prog 15 #[.agg D] W fun e w' => e = .returned (.agg #[.int .i64 off, .int .i64 kd, .int .i64 sv, .string sn, .string sf, .bool is, .int .i64 y, .int .i64 m, .int .i64 d1, .int .i64 d2, .int .i64 d3, .int .i64 h1, .int .i64 h2]) ∧ Below W.heap.size W w')) (HT : Hid (∀ W, Below w.heap.size w W → ETabs W ∧ MaxL W)) :
    Calls Tryz.prog 9 #[.agg D, .int .u8 (x : Int), .int .u16 (n : Int)] w fun e w' => e = .returned (.bool true) ∧ Below w.heap.size w w' := by
  have e0 : ((q : Int) == 0) = false := by rw [beq_eq_false_iff_ne]; omega
  have e1 : ((q : Int) == 1) = false := by rw [beq_eq_false_iff_ne]; omega
  have e2 : ((q : Int) == 2) = false := by rw [beq_eq_false_iff_ne]; omega
  have e3 : ((q : Int) == 3) = false := by rw [beq_eq_false_iff_ne]; omega
  have e4 : ((q : Int) == 4) = false := by rw [beq_eq_false_iff_ne]; omega
  have e5 : ((q : Int) == 5) = false := by rw [beq_eq_false_iff_ne]; omega
  have e6 : ((q : Int) == 6) = false := by rw [beq_eq_false_iff_ne]; omega
  have e7 : ((q : Int) == 7) = false := by rw [beq_eq_false_iff_ne]; omega
  have e8 : ((q : Int) == 8) = true := by rw [beq_iff_eq]; omega
  have HP := Lib.hid (show ∀ W, Below w.heap.size w W → Calls Tryz.prog 13 #[.agg #[.int .i64 off, .int .i64 kd, .int .i64 sv, .string sn, .string sf, .bool true, .int .i64 (2150 + (n : Int)), .int .i64 1, .int .i64 1, .int .i64 0, .int .i64 1, .int .i64 0, .int .i64 0]] W fun e w' => e = .returned (.tuple #[.string ⟨#[]⟩, .int .i64 2]) ∧ Below W.heap.size W w' from fun W hW => by
    have h := eprint_wrong ⟨off, kd, sv, sn.data.toList, sf.data.toList, ⟨true, (2150 + (n : Int)), 1, (1, 0, 1), (0, 0)⟩⟩ (fun h => by have h1 := h.til.year rfl; simp only [namedB, decide_eq_true_eq] at h1; omega) (by simp only [List.length_nil, List.length_cons]; omega) (by simp only [List.length_nil, List.length_cons]; omega) W (HT.out W hW).1
    simpa [EraP.cells] using h)
  have HW := Lib.hid (fun W hW => eworks_any W (HT.out W hW).1 (HT.out W hW).2)
  clear hqk hln HT
  go_enter Tryz.func9, Tryz.ntmps9
  go_wp2_with (first | (refine wpList_load_row rfl 43 (.tmp 3) rfl w.heap.size rfl 43 D (0, 0) _ (Blk.new _ _ _) Tryz.underlying43 rfl hD ?_) | fail)
  refine (HM.out _).mono ?_
  rintro e w1 ⟨rfl, hb1⟩
  have HB := Lib.hid (show Below w.heap.size w w1 from ((Below.refl _ _).alloc (Nat.le_refl _) _).trans (hb1.mono (by simp)))
  clear hb1
  go_upto_region 2 with fail
  have HG := Lib.hid (And.intro (Blk.new' w1 31 #[.int .i64 off, .int .i64 kd, .int .i64 sv, .string sn, .string sf, .bool is, .int .i64 y, .int .i64 m, .int .i64 d1, .int .i64 d2, .int .i64 d3, .int .i64 h1, .int .i64 h2] rfl) (HB.out.alloc HB.out.size (.cells #[.int .i64 off, .int .i64 kd, .int .i64 sv, .string sn, .string sf, .bool is, .int .i64 y, .int .i64 m, .int .i64 d1, .int .i64 d2, .int .i64 d3, .int .i64 h1, .int .i64 h2] 31)))
  generalize w1.alloc (.cells #[.int .i64 off, .int .i64 kd, .int .i64 sv, .string sn, .string sf, .bool is, .int .i64 y, .int .i64 m, .int .i64 d1, .int .i64 d2, .int .i64 d3, .int .i64 h1, .int .i64 h2] 31) = w2 at *
  have hg : w.heap.size ≤ w1.heap.size := HB.out.size
  clear HB HM hD
  generalize w1.heap.size = g at *
  go_wp2_with fail
  refine (until_any _ _ _ _ _ _).mono ?_
  rintro e w9 ⟨rfl, hb9⟩
  have HG9 := Lib.hid (And.intro (HG.out.1.below hb9 HG.out.1.lt) (HG.out.2.trans (hb9.mono HG.out.2.size)))
  clear HG hb9
  have u5 : w9.cell? ⟨g, 5, none⟩ = some (.bool is) := HG9.out.1.cell_ rfl
  have y5 := HG9.out.1.frozen 5
  have u6 : w9.cell? ⟨g, 6, none⟩ = some (.int .i64 y) := HG9.out.1.cell_ rfl
  have y6 := HG9.out.1.frozen 6
  have u7 : w9.cell? ⟨g, 7, none⟩ = some (.int .i64 m) := HG9.out.1.cell_ rfl
  have y7 := HG9.out.1.frozen 7
  have u8 : w9.cell? ⟨g, 8, none⟩ = some (.int .i64 d1) := HG9.out.1.cell_ rfl
  have y8 := HG9.out.1.frozen 8
  have u9 : w9.cell? ⟨g, 9, none⟩ = some (.int .i64 d2) := HG9.out.1.cell_ rfl
  have y9 := HG9.out.1.frozen 9
  have u10 : w9.cell? ⟨g, 10, none⟩ = some (.int .i64 d3) := HG9.out.1.cell_ rfl
  have y10 := HG9.out.1.frozen 10
  have u11 : w9.cell? ⟨g, 11, none⟩ = some (.int .i64 h1) := HG9.out.1.cell_ rfl
  have y11 := HG9.out.1.frozen 11
  have u12 : w9.cell? ⟨g, 12, none⟩ = some (.int .i64 h2) := HG9.out.1.cell_ rfl
  have y12 := HG9.out.1.frozen 12
  have hl := HG9.out.1.lt
  obtain ⟨w5, hw5⟩ : ∃ W, ((((((((w9.setCell ⟨g, 5, none⟩ (.bool true)).setCell ⟨g, 6, none⟩ (.int .i64 (2150 + (n : Int)))).setCell ⟨g, 7, none⟩ (.int .i64 1)).setCell ⟨g, 8, none⟩ (.int .i64 1)).setCell ⟨g, 9, none⟩ (.int .i64 0)).setCell ⟨g, 10, none⟩ (.int .i64 1)).setCell ⟨g, 11, none⟩ (.int .i64 0)).setCell ⟨g, 12, none⟩ (.int .i64 0)) = W := ⟨_, rfl⟩
  have HX5 := Lib.hid (show Blk w5 g 31 #[.int .i64 off, .int .i64 kd, .int .i64 sv, .string sn, .string sf, .bool true, .int .i64 (2150 + (n : Int)), .int .i64 1, .int .i64 1, .int .i64 0, .int .i64 1, .int .i64 0, .int .i64 0] ∧ Below w.heap.size w w5 from by
    rw [← hw5]
    exact ⟨Blk.setMid [.int .i64 off, .int .i64 kd, .int .i64 sv, .string sn, .string sf] [.bool is, .int .i64 y, .int .i64 m, .int .i64 d1, .int .i64 d2, .int .i64 d3, .int .i64 h1, .int .i64 h2] [.bool true, .int .i64 (2150 + (n : Int)), .int .i64 1, .int .i64 1, .int .i64 0, .int .i64 1, .int .i64 0, .int .i64 0] [] HG9.out.1 rfl, below_sets hg [.bool true, .int .i64 (2150 + (n : Int)), .int .i64 1, .int .i64 1, .int .i64 0, .int .i64 1, .int .i64 0, .int .i64 0] 5 _ HG9.out.2⟩)
  have HX := HX5
  go_upto_region 27 with fail
  try simp only [hw5]
  clear hw5 HG9 HX5
  clear u5 y5 u6 y6 u7 y7 u8 y8 u9 y9 u10 y10 u11 y11 u12 y12 hl
  go_wp2_with (first | (refine wpList_load_row rfl 31 (.tmp 7) rfl g rfl 31 #[.int .i64 off, .int .i64 kd, .int .i64 sv, .string sn, .string sf, .bool true, .int .i64 (2150 + (n : Int)), .int .i64 1, .int .i64 1, .int .i64 0, .int .i64 1, .int .i64 0, .int .i64 0] (0, 0) _ HX.out.1 Tryz.underlying31 rfl infoEra ?_) | fail)
  refine (HP.out _ HX.out.2).mono ?_
  rintro e w7 ⟨rfl, hb2⟩
  have HB2 := Lib.hid (show Below w.heap.size w w7 from HX.out.2.trans (hb2.mono HX.out.2.size))
  clear hb2 HX
  go_wp2_with fail
  refine (HW.out _ HB2.out).mono ?_
  rintro e w8 ⟨rfl, hb3⟩
  go_wp2_with fail
  go_ret
  exact ⟨rfl, HB2.out.trans (hb3.mono HB2.out.size)⟩

set_option maxRecDepth 100000 in
set_option maxHeartbeats 1000000 in
theorem eref_9 (D : Array Value) (x n q : Nat) (off kd sv : Int) (sn sf : ByteArray) (is : Bool) (y m d1 d2 d3 h1 h2 : Int) (w : World) (hD : (Tryz.prog.info? 43).map (·.size) = some D.size) (hq : (x : Int) % 12 = (q : Int)) (hqk : q = 9) (hx : x < 256) (hn : n < 65536) (hln : sn.data.toList.length ≤ 30 ∧ sf.data.toList.length ≤ 30)
    (HM : Hid (∀ W, Calls Tryz.prog 15 #[.agg D] W fun e w' => e = .returned (.agg #[.int .i64 off, .int .i64 kd, .int .i64 sv, .string sn, .string sf, .bool is, .int .i64 y, .int .i64 m, .int .i64 d1, .int .i64 d2, .int .i64 d3, .int .i64 h1, .int .i64 h2]) ∧ Below W.heap.size W w')) (HT : Hid (∀ W, Below w.heap.size w W → ETabs W ∧ MaxL W)) :
    Calls Tryz.prog 9 #[.agg D, .int .u8 (x : Int), .int .u16 (n : Int)] w fun e w' => e = .returned (.bool true) ∧ Below w.heap.size w w' := by
  have e0 : ((q : Int) == 0) = false := by rw [beq_eq_false_iff_ne]; omega
  have e1 : ((q : Int) == 1) = false := by rw [beq_eq_false_iff_ne]; omega
  have e2 : ((q : Int) == 2) = false := by rw [beq_eq_false_iff_ne]; omega
  have e3 : ((q : Int) == 3) = false := by rw [beq_eq_false_iff_ne]; omega
  have e4 : ((q : Int) == 4) = false := by rw [beq_eq_false_iff_ne]; omega
  have e5 : ((q : Int) == 5) = false := by rw [beq_eq_false_iff_ne]; omega
  have e6 : ((q : Int) == 6) = false := by rw [beq_eq_false_iff_ne]; omega
  have e7 : ((q : Int) == 7) = false := by rw [beq_eq_false_iff_ne]; omega
  have e8 : ((q : Int) == 8) = false := by rw [beq_eq_false_iff_ne]; omega
  have e9 : ((q : Int) == 9) = true := by rw [beq_iff_eq]; omega
  have HP := Lib.hid (show ∀ W, Below w.heap.size w W → Calls Tryz.prog 13 #[.agg #[.int .i64 off, .int .i64 kd, .int .i64 sv, .string sn, .string sf, .bool true, .int .i64 1900, .int .i64 (13 + (n : Int)), .int .i64 1, .int .i64 0, .int .i64 1, .int .i64 0, .int .i64 0]] W fun e w' => e = .returned (.tuple #[.string ⟨#[]⟩, .int .i64 2]) ∧ Below W.heap.size W w' from fun W hW => by
    have h := eprint_wrong ⟨off, kd, sv, sn.data.toList, sf.data.toList, ⟨true, 1900, (13 + (n : Int)), (1, 0, 1), (0, 0)⟩⟩ (fun h => by have h1 := h.til.mon rfl; simp only at h1; omega) (by simp only [List.length_nil, List.length_cons]; omega) (by simp only [List.length_nil, List.length_cons]; omega) W (HT.out W hW).1
    simpa [EraP.cells] using h)
  have HW := Lib.hid (fun W hW => eworks_any W (HT.out W hW).1 (HT.out W hW).2)
  clear hqk hln HT
  go_enter Tryz.func9, Tryz.ntmps9
  go_wp2_with (first | (refine wpList_load_row rfl 43 (.tmp 3) rfl w.heap.size rfl 43 D (0, 0) _ (Blk.new _ _ _) Tryz.underlying43 rfl hD ?_) | fail)
  refine (HM.out _).mono ?_
  rintro e w1 ⟨rfl, hb1⟩
  have HB := Lib.hid (show Below w.heap.size w w1 from ((Below.refl _ _).alloc (Nat.le_refl _) _).trans (hb1.mono (by simp)))
  clear hb1
  go_upto_region 2 with fail
  have HG := Lib.hid (And.intro (Blk.new' w1 31 #[.int .i64 off, .int .i64 kd, .int .i64 sv, .string sn, .string sf, .bool is, .int .i64 y, .int .i64 m, .int .i64 d1, .int .i64 d2, .int .i64 d3, .int .i64 h1, .int .i64 h2] rfl) (HB.out.alloc HB.out.size (.cells #[.int .i64 off, .int .i64 kd, .int .i64 sv, .string sn, .string sf, .bool is, .int .i64 y, .int .i64 m, .int .i64 d1, .int .i64 d2, .int .i64 d3, .int .i64 h1, .int .i64 h2] 31)))
  generalize w1.alloc (.cells #[.int .i64 off, .int .i64 kd, .int .i64 sv, .string sn, .string sf, .bool is, .int .i64 y, .int .i64 m, .int .i64 d1, .int .i64 d2, .int .i64 d3, .int .i64 h1, .int .i64 h2] 31) = w2 at *
  have hg : w.heap.size ≤ w1.heap.size := HB.out.size
  clear HB HM hD
  generalize w1.heap.size = g at *
  go_wp2_with fail
  refine (until_any _ _ _ _ _ _).mono ?_
  rintro e w9 ⟨rfl, hb9⟩
  have HG9 := Lib.hid (And.intro (HG.out.1.below hb9 HG.out.1.lt) (HG.out.2.trans (hb9.mono HG.out.2.size)))
  clear HG hb9
  have u5 : w9.cell? ⟨g, 5, none⟩ = some (.bool is) := HG9.out.1.cell_ rfl
  have y5 := HG9.out.1.frozen 5
  have u6 : w9.cell? ⟨g, 6, none⟩ = some (.int .i64 y) := HG9.out.1.cell_ rfl
  have y6 := HG9.out.1.frozen 6
  have u7 : w9.cell? ⟨g, 7, none⟩ = some (.int .i64 m) := HG9.out.1.cell_ rfl
  have y7 := HG9.out.1.frozen 7
  have u8 : w9.cell? ⟨g, 8, none⟩ = some (.int .i64 d1) := HG9.out.1.cell_ rfl
  have y8 := HG9.out.1.frozen 8
  have u9 : w9.cell? ⟨g, 9, none⟩ = some (.int .i64 d2) := HG9.out.1.cell_ rfl
  have y9 := HG9.out.1.frozen 9
  have u10 : w9.cell? ⟨g, 10, none⟩ = some (.int .i64 d3) := HG9.out.1.cell_ rfl
  have y10 := HG9.out.1.frozen 10
  have u11 : w9.cell? ⟨g, 11, none⟩ = some (.int .i64 h1) := HG9.out.1.cell_ rfl
  have y11 := HG9.out.1.frozen 11
  have u12 : w9.cell? ⟨g, 12, none⟩ = some (.int .i64 h2) := HG9.out.1.cell_ rfl
  have y12 := HG9.out.1.frozen 12
  have hl := HG9.out.1.lt
  obtain ⟨w5, hw5⟩ : ∃ W, ((((((((w9.setCell ⟨g, 5, none⟩ (.bool true)).setCell ⟨g, 6, none⟩ (.int .i64 1900)).setCell ⟨g, 7, none⟩ (.int .i64 (13 + (n : Int)))).setCell ⟨g, 8, none⟩ (.int .i64 1)).setCell ⟨g, 9, none⟩ (.int .i64 0)).setCell ⟨g, 10, none⟩ (.int .i64 1)).setCell ⟨g, 11, none⟩ (.int .i64 0)).setCell ⟨g, 12, none⟩ (.int .i64 0)) = W := ⟨_, rfl⟩
  have HX5 := Lib.hid (show Blk w5 g 31 #[.int .i64 off, .int .i64 kd, .int .i64 sv, .string sn, .string sf, .bool true, .int .i64 1900, .int .i64 (13 + (n : Int)), .int .i64 1, .int .i64 0, .int .i64 1, .int .i64 0, .int .i64 0] ∧ Below w.heap.size w w5 from by
    rw [← hw5]
    exact ⟨Blk.setMid [.int .i64 off, .int .i64 kd, .int .i64 sv, .string sn, .string sf] [.bool is, .int .i64 y, .int .i64 m, .int .i64 d1, .int .i64 d2, .int .i64 d3, .int .i64 h1, .int .i64 h2] [.bool true, .int .i64 1900, .int .i64 (13 + (n : Int)), .int .i64 1, .int .i64 0, .int .i64 1, .int .i64 0, .int .i64 0] [] HG9.out.1 rfl, below_sets hg [.bool true, .int .i64 1900, .int .i64 (13 + (n : Int)), .int .i64 1, .int .i64 0, .int .i64 1, .int .i64 0, .int .i64 0] 5 _ HG9.out.2⟩)
  have HX := HX5
  go_upto_region 27 with fail
  try simp only [hw5]
  clear hw5 HG9 HX5
  clear u5 y5 u6 y6 u7 y7 u8 y8 u9 y9 u10 y10 u11 y11 u12 y12 hl
  go_wp2_with (first | (refine wpList_load_row rfl 31 (.tmp 7) rfl g rfl 31 #[.int .i64 off, .int .i64 kd, .int .i64 sv, .string sn, .string sf, .bool true, .int .i64 1900, .int .i64 (13 + (n : Int)), .int .i64 1, .int .i64 0, .int .i64 1, .int .i64 0, .int .i64 0] (0, 0) _ HX.out.1 Tryz.underlying31 rfl infoEra ?_) | fail)
  refine (HP.out _ HX.out.2).mono ?_
  rintro e w7 ⟨rfl, hb2⟩
  have HB2 := Lib.hid (show Below w.heap.size w w7 from HX.out.2.trans (hb2.mono HX.out.2.size))
  clear hb2 HX
  go_wp2_with fail
  refine (HW.out _ HB2.out).mono ?_
  rintro e w8 ⟨rfl, hb3⟩
  go_wp2_with fail
  go_ret
  exact ⟨rfl, HB2.out.trans (hb3.mono HB2.out.size)⟩

set_option maxRecDepth 100000 in
set_option maxHeartbeats 1000000 in
theorem eref_10 (D : Array Value) (x n q : Nat) (off kd sv : Int) (sn sf : ByteArray) (is : Bool) (y m d1 d2 d3 h1 h2 : Int) (w : World) (hD : (Tryz.prog.info? 43).map (·.size) = some D.size) (hq : (x : Int) % 12 = (q : Int)) (hqk : q = 10) (hx : x < 256) (hn : n < 65536) (hln : sn.data.toList.length ≤ 30 ∧ sf.data.toList.length ≤ 30)
    (HM : Hid (∀ W, Calls Tryz.prog 15 #[.agg D] W fun e w' => e = .returned (.agg #[.int .i64 off, .int .i64 kd, .int .i64 sv, .string sn, .string sf, .bool is, .int .i64 y, .int .i64 m, .int .i64 d1, .int .i64 d2, .int .i64 d3, .int .i64 h1, .int .i64 h2]) ∧ Below W.heap.size W w')) (HT : Hid (∀ W, Below w.heap.size w W → ETabs W ∧ MaxL W)) :
    Calls Tryz.prog 9 #[.agg D, .int .u8 (x : Int), .int .u16 (n : Int)] w fun e w' => e = .returned (.bool true) ∧ Below w.heap.size w w' := by
  have e0 : ((q : Int) == 0) = false := by rw [beq_eq_false_iff_ne]; omega
  have e1 : ((q : Int) == 1) = false := by rw [beq_eq_false_iff_ne]; omega
  have e2 : ((q : Int) == 2) = false := by rw [beq_eq_false_iff_ne]; omega
  have e3 : ((q : Int) == 3) = false := by rw [beq_eq_false_iff_ne]; omega
  have e4 : ((q : Int) == 4) = false := by rw [beq_eq_false_iff_ne]; omega
  have e5 : ((q : Int) == 5) = false := by rw [beq_eq_false_iff_ne]; omega
  have e6 : ((q : Int) == 6) = false := by rw [beq_eq_false_iff_ne]; omega
  have e7 : ((q : Int) == 7) = false := by rw [beq_eq_false_iff_ne]; omega
  have e8 : ((q : Int) == 8) = false := by rw [beq_eq_false_iff_ne]; omega
  have e9 : ((q : Int) == 9) = false := by rw [beq_eq_false_iff_ne]; omega
  have e10 : ((q : Int) == 10) = true := by rw [beq_iff_eq]; omega
  have HP := Lib.hid (show ∀ W, Below w.heap.size w W → Calls Tryz.prog 13 #[.agg #[.int .i64 off, .int .i64 kd, .int .i64 sv, .string sn, .string sf, .bool true, .int .i64 1900, .int .i64 1, .int .i64 1, .int .i64 0, .int .i64 (32 + (n : Int)), .int .i64 0, .int .i64 0]] W fun e w' => e = .returned (.tuple #[.string ⟨#[]⟩, .int .i64 2]) ∧ Below W.heap.size W w' from fun W hW => by
    have h := eprint_wrong ⟨off, kd, sv, sn.data.toList, sf.data.toList, ⟨true, 1900, 1, (1, 0, (32 + (n : Int))), (0, 0)⟩⟩ (fun h => by have h1 := (right_bd (h.til.day rfl)).2.2; simp only at h1; omega) (by simp only [List.length_nil, List.length_cons]; omega) (by simp only [List.length_nil, List.length_cons]; omega) W (HT.out W hW).1
    simpa [EraP.cells] using h)
  have HW := Lib.hid (fun W hW => eworks_any W (HT.out W hW).1 (HT.out W hW).2)
  clear hqk hln HT
  go_enter Tryz.func9, Tryz.ntmps9
  go_wp2_with (first | (refine wpList_load_row rfl 43 (.tmp 3) rfl w.heap.size rfl 43 D (0, 0) _ (Blk.new _ _ _) Tryz.underlying43 rfl hD ?_) | fail)
  refine (HM.out _).mono ?_
  rintro e w1 ⟨rfl, hb1⟩
  have HB := Lib.hid (show Below w.heap.size w w1 from ((Below.refl _ _).alloc (Nat.le_refl _) _).trans (hb1.mono (by simp)))
  clear hb1
  go_upto_region 2 with fail
  have HG := Lib.hid (And.intro (Blk.new' w1 31 #[.int .i64 off, .int .i64 kd, .int .i64 sv, .string sn, .string sf, .bool is, .int .i64 y, .int .i64 m, .int .i64 d1, .int .i64 d2, .int .i64 d3, .int .i64 h1, .int .i64 h2] rfl) (HB.out.alloc HB.out.size (.cells #[.int .i64 off, .int .i64 kd, .int .i64 sv, .string sn, .string sf, .bool is, .int .i64 y, .int .i64 m, .int .i64 d1, .int .i64 d2, .int .i64 d3, .int .i64 h1, .int .i64 h2] 31)))
  generalize w1.alloc (.cells #[.int .i64 off, .int .i64 kd, .int .i64 sv, .string sn, .string sf, .bool is, .int .i64 y, .int .i64 m, .int .i64 d1, .int .i64 d2, .int .i64 d3, .int .i64 h1, .int .i64 h2] 31) = w2 at *
  have hg : w.heap.size ≤ w1.heap.size := HB.out.size
  clear HB HM hD
  generalize w1.heap.size = g at *
  go_wp2_with fail
  refine (until_any _ _ _ _ _ _).mono ?_
  rintro e w9 ⟨rfl, hb9⟩
  have HG9 := Lib.hid (And.intro (HG.out.1.below hb9 HG.out.1.lt) (HG.out.2.trans (hb9.mono HG.out.2.size)))
  clear HG hb9
  have u5 : w9.cell? ⟨g, 5, none⟩ = some (.bool is) := HG9.out.1.cell_ rfl
  have y5 := HG9.out.1.frozen 5
  have u6 : w9.cell? ⟨g, 6, none⟩ = some (.int .i64 y) := HG9.out.1.cell_ rfl
  have y6 := HG9.out.1.frozen 6
  have u7 : w9.cell? ⟨g, 7, none⟩ = some (.int .i64 m) := HG9.out.1.cell_ rfl
  have y7 := HG9.out.1.frozen 7
  have u8 : w9.cell? ⟨g, 8, none⟩ = some (.int .i64 d1) := HG9.out.1.cell_ rfl
  have y8 := HG9.out.1.frozen 8
  have u9 : w9.cell? ⟨g, 9, none⟩ = some (.int .i64 d2) := HG9.out.1.cell_ rfl
  have y9 := HG9.out.1.frozen 9
  have u10 : w9.cell? ⟨g, 10, none⟩ = some (.int .i64 d3) := HG9.out.1.cell_ rfl
  have y10 := HG9.out.1.frozen 10
  have u11 : w9.cell? ⟨g, 11, none⟩ = some (.int .i64 h1) := HG9.out.1.cell_ rfl
  have y11 := HG9.out.1.frozen 11
  have u12 : w9.cell? ⟨g, 12, none⟩ = some (.int .i64 h2) := HG9.out.1.cell_ rfl
  have y12 := HG9.out.1.frozen 12
  have hl := HG9.out.1.lt
  obtain ⟨w5, hw5⟩ : ∃ W, ((((((((w9.setCell ⟨g, 5, none⟩ (.bool true)).setCell ⟨g, 6, none⟩ (.int .i64 1900)).setCell ⟨g, 7, none⟩ (.int .i64 1)).setCell ⟨g, 8, none⟩ (.int .i64 1)).setCell ⟨g, 9, none⟩ (.int .i64 0)).setCell ⟨g, 10, none⟩ (.int .i64 (32 + (n : Int)))).setCell ⟨g, 11, none⟩ (.int .i64 0)).setCell ⟨g, 12, none⟩ (.int .i64 0)) = W := ⟨_, rfl⟩
  have HX5 := Lib.hid (show Blk w5 g 31 #[.int .i64 off, .int .i64 kd, .int .i64 sv, .string sn, .string sf, .bool true, .int .i64 1900, .int .i64 1, .int .i64 1, .int .i64 0, .int .i64 (32 + (n : Int)), .int .i64 0, .int .i64 0] ∧ Below w.heap.size w w5 from by
    rw [← hw5]
    exact ⟨Blk.setMid [.int .i64 off, .int .i64 kd, .int .i64 sv, .string sn, .string sf] [.bool is, .int .i64 y, .int .i64 m, .int .i64 d1, .int .i64 d2, .int .i64 d3, .int .i64 h1, .int .i64 h2] [.bool true, .int .i64 1900, .int .i64 1, .int .i64 1, .int .i64 0, .int .i64 (32 + (n : Int)), .int .i64 0, .int .i64 0] [] HG9.out.1 rfl, below_sets hg [.bool true, .int .i64 1900, .int .i64 1, .int .i64 1, .int .i64 0, .int .i64 (32 + (n : Int)), .int .i64 0, .int .i64 0] 5 _ HG9.out.2⟩)
  have HX := HX5
  go_upto_region 27 with fail
  try simp only [hw5]
  clear hw5 HG9 HX5
  clear u5 y5 u6 y6 u7 y7 u8 y8 u9 y9 u10 y10 u11 y11 u12 y12 hl
  go_wp2_with (first | (refine wpList_load_row rfl 31 (.tmp 7) rfl g rfl 31 #[.int .i64 off, .int .i64 kd, .int .i64 sv, .string sn, .string sf, .bool true, .int .i64 1900, .int .i64 1, .int .i64 1, .int .i64 0, .int .i64 (32 + (n : Int)), .int .i64 0, .int .i64 0] (0, 0) _ HX.out.1 Tryz.underlying31 rfl infoEra ?_) | fail)
  refine (HP.out _ HX.out.2).mono ?_
  rintro e w7 ⟨rfl, hb2⟩
  have HB2 := Lib.hid (show Below w.heap.size w w7 from HX.out.2.trans (hb2.mono HX.out.2.size))
  clear hb2 HX
  go_wp2_with fail
  refine (HW.out _ HB2.out).mono ?_
  rintro e w8 ⟨rfl, hb3⟩
  go_wp2_with fail
  go_ret
  exact ⟨rfl, HB2.out.trans (hb3.mono HB2.out.size)⟩

set_option maxRecDepth 100000 in
set_option maxHeartbeats 1000000 in
theorem eref_11 (D : Array Value) (x n q : Nat) (off kd sv : Int) (sn sf : ByteArray) (is : Bool) (y m d1 d2 d3 h1 h2 : Int) (w : World) (hD : (Tryz.prog.info? 43).map (·.size) = some D.size) (hq : (x : Int) % 12 = (q : Int)) (hqk : q = 11) (hx : x < 256) (hn : n < 65536) (hln : sn.data.toList.length ≤ 30 ∧ sf.data.toList.length ≤ 30)
    (HM : Hid (∀ W, Calls Tryz.prog 15 #[.agg D] W fun e w' => e = .returned (.agg #[.int .i64 off, .int .i64 kd, .int .i64 sv, .string sn, .string sf, .bool is, .int .i64 y, .int .i64 m, .int .i64 d1, .int .i64 d2, .int .i64 d3, .int .i64 h1, .int .i64 h2]) ∧ Below W.heap.size W w')) (HT : Hid (∀ W, Below w.heap.size w W → ETabs W ∧ MaxL W)) :
    Calls Tryz.prog 9 #[.agg D, .int .u8 (x : Int), .int .u16 (n : Int)] w fun e w' => e = .returned (.bool true) ∧ Below w.heap.size w w' := by
  have e0 : ((q : Int) == 0) = false := by rw [beq_eq_false_iff_ne]; omega
  have e1 : ((q : Int) == 1) = false := by rw [beq_eq_false_iff_ne]; omega
  have e2 : ((q : Int) == 2) = false := by rw [beq_eq_false_iff_ne]; omega
  have e3 : ((q : Int) == 3) = false := by rw [beq_eq_false_iff_ne]; omega
  have e4 : ((q : Int) == 4) = false := by rw [beq_eq_false_iff_ne]; omega
  have e5 : ((q : Int) == 5) = false := by rw [beq_eq_false_iff_ne]; omega
  have e6 : ((q : Int) == 6) = false := by rw [beq_eq_false_iff_ne]; omega
  have e7 : ((q : Int) == 7) = false := by rw [beq_eq_false_iff_ne]; omega
  have e8 : ((q : Int) == 8) = false := by rw [beq_eq_false_iff_ne]; omega
  have e9 : ((q : Int) == 9) = false := by rw [beq_eq_false_iff_ne]; omega
  have e10 : ((q : Int) == 10) = false := by rw [beq_eq_false_iff_ne]; omega
  have HP := Lib.hid (show ∀ W, Below w.heap.size w W → Calls Tryz.prog 13 #[.agg #[.int .i64 off, .int .i64 kd, .int .i64 sv, .string sn, .string sf, .bool false, .int .i64 (1 + (n : Int)), .int .i64 0, .int .i64 0, .int .i64 0, .int .i64 0, .int .i64 0, .int .i64 0]] W fun e w' => e = .returned (.tuple #[.string ⟨#[]⟩, .int .i64 2]) ∧ Below W.heap.size W w' from fun W hW => by
    have h := eprint_wrong ⟨off, kd, sv, sn.data.toList, sf.data.toList, ⟨false, (1 + (n : Int)), 0, (0, 0, 0), (0, 0)⟩⟩ (fun h => by have h1 := congrArg UntilP.year (h.til.no rfl); simp only [UntilP.none] at h1; omega) (by simp only [List.length_nil, List.length_cons]; omega) (by simp only [List.length_nil, List.length_cons]; omega) W (HT.out W hW).1
    simpa [EraP.cells] using h)
  have HW := Lib.hid (fun W hW => eworks_any W (HT.out W hW).1 (HT.out W hW).2)
  clear hqk hln HT
  go_enter Tryz.func9, Tryz.ntmps9
  go_wp2_with (first | (refine wpList_load_row rfl 43 (.tmp 3) rfl w.heap.size rfl 43 D (0, 0) _ (Blk.new _ _ _) Tryz.underlying43 rfl hD ?_) | fail)
  refine (HM.out _).mono ?_
  rintro e w1 ⟨rfl, hb1⟩
  have HB := Lib.hid (show Below w.heap.size w w1 from ((Below.refl _ _).alloc (Nat.le_refl _) _).trans (hb1.mono (by simp)))
  clear hb1
  go_upto_region 2 with fail
  have HG := Lib.hid (And.intro (Blk.new' w1 31 #[.int .i64 off, .int .i64 kd, .int .i64 sv, .string sn, .string sf, .bool is, .int .i64 y, .int .i64 m, .int .i64 d1, .int .i64 d2, .int .i64 d3, .int .i64 h1, .int .i64 h2] rfl) (HB.out.alloc HB.out.size (.cells #[.int .i64 off, .int .i64 kd, .int .i64 sv, .string sn, .string sf, .bool is, .int .i64 y, .int .i64 m, .int .i64 d1, .int .i64 d2, .int .i64 d3, .int .i64 h1, .int .i64 h2] 31)))
  generalize w1.alloc (.cells #[.int .i64 off, .int .i64 kd, .int .i64 sv, .string sn, .string sf, .bool is, .int .i64 y, .int .i64 m, .int .i64 d1, .int .i64 d2, .int .i64 d3, .int .i64 h1, .int .i64 h2] 31) = w2 at *
  have hg : w.heap.size ≤ w1.heap.size := HB.out.size
  clear HB HM hD
  generalize w1.heap.size = g at *
  have u5 : w2.cell? ⟨g, 5, none⟩ = some (.bool is) := HG.out.1.cell_ rfl
  have y5 := HG.out.1.frozen 5
  have u6 : w2.cell? ⟨g, 6, none⟩ = some (.int .i64 y) := HG.out.1.cell_ rfl
  have y6 := HG.out.1.frozen 6
  have u7 : w2.cell? ⟨g, 7, none⟩ = some (.int .i64 m) := HG.out.1.cell_ rfl
  have y7 := HG.out.1.frozen 7
  have u8 : w2.cell? ⟨g, 8, none⟩ = some (.int .i64 d1) := HG.out.1.cell_ rfl
  have y8 := HG.out.1.frozen 8
  have u9 : w2.cell? ⟨g, 9, none⟩ = some (.int .i64 d2) := HG.out.1.cell_ rfl
  have y9 := HG.out.1.frozen 9
  have u10 : w2.cell? ⟨g, 10, none⟩ = some (.int .i64 d3) := HG.out.1.cell_ rfl
  have y10 := HG.out.1.frozen 10
  have u11 : w2.cell? ⟨g, 11, none⟩ = some (.int .i64 h1) := HG.out.1.cell_ rfl
  have y11 := HG.out.1.frozen 11
  have u12 : w2.cell? ⟨g, 12, none⟩ = some (.int .i64 h2) := HG.out.1.cell_ rfl
  have y12 := HG.out.1.frozen 12
  have hl := HG.out.1.lt
  obtain ⟨w5, hw5⟩ : ∃ W, ((((((((w2.setCell ⟨g, 5, none⟩ (.bool false)).setCell ⟨g, 6, none⟩ (.int .i64 (1 + (n : Int)))).setCell ⟨g, 7, none⟩ (.int .i64 0)).setCell ⟨g, 8, none⟩ (.int .i64 0)).setCell ⟨g, 9, none⟩ (.int .i64 0)).setCell ⟨g, 10, none⟩ (.int .i64 0)).setCell ⟨g, 11, none⟩ (.int .i64 0)).setCell ⟨g, 12, none⟩ (.int .i64 0)) = W := ⟨_, rfl⟩
  have HX5 := Lib.hid (show Blk w5 g 31 #[.int .i64 off, .int .i64 kd, .int .i64 sv, .string sn, .string sf, .bool false, .int .i64 (1 + (n : Int)), .int .i64 0, .int .i64 0, .int .i64 0, .int .i64 0, .int .i64 0, .int .i64 0] ∧ Below w.heap.size w w5 from by
    rw [← hw5]
    exact ⟨Blk.setMid [.int .i64 off, .int .i64 kd, .int .i64 sv, .string sn, .string sf] [.bool is, .int .i64 y, .int .i64 m, .int .i64 d1, .int .i64 d2, .int .i64 d3, .int .i64 h1, .int .i64 h2] [.bool false, .int .i64 (1 + (n : Int)), .int .i64 0, .int .i64 0, .int .i64 0, .int .i64 0, .int .i64 0, .int .i64 0] [] HG.out.1 rfl, below_sets hg [.bool false, .int .i64 (1 + (n : Int)), .int .i64 0, .int .i64 0, .int .i64 0, .int .i64 0, .int .i64 0, .int .i64 0] 5 _ HG.out.2⟩)
  have HX := HX5
  go_upto_region 27 with fail
  try simp only [hw5]
  clear hw5 HG HX5
  clear u5 y5 u6 y6 u7 y7 u8 y8 u9 y9 u10 y10 u11 y11 u12 y12 hl
  go_wp2_with (first | (refine wpList_load_row rfl 31 (.tmp 7) rfl g rfl 31 #[.int .i64 off, .int .i64 kd, .int .i64 sv, .string sn, .string sf, .bool false, .int .i64 (1 + (n : Int)), .int .i64 0, .int .i64 0, .int .i64 0, .int .i64 0, .int .i64 0, .int .i64 0] (0, 0) _ HX.out.1 Tryz.underlying31 rfl infoEra ?_) | fail)
  refine (HP.out _ HX.out.2).mono ?_
  rintro e w7 ⟨rfl, hb2⟩
  have HB2 := Lib.hid (show Below w.heap.size w w7 from HX.out.2.trans (hb2.mono HX.out.2.size))
  clear hb2 HX
  go_wp2_with fail
  refine (HW.out _ HB2.out).mono ?_
  rintro e w8 ⟨rfl, hb3⟩
  go_wp2_with fail
  go_ret
  exact ⟨rfl, HB2.out.trans (hb3.mono HB2.out.size)⟩

theorem erefuse_any (d : DraftE) (h : d.Ok) (x n : Nat) (hx : x < 256) (hn : n < 65536) (w : World) (hT : ETabs w) (hM : MaxL w) :
    Calls Tryz.prog 9 #[.agg d.cells, .int .u8 (x : Int), .int .u16 (n : Int)] w fun e w' => e = .returned (.bool true) ∧ Below w.heap.size w w' := by
  have HM := fun W => emade_any d h W
  have hr := d.right
  have HT : ∀ W, Below w.heap.size w W → ETabs W ∧ MaxL W := fun W hW => ⟨hT.below hW, hM.below hW⟩
  have hD := infoED d
  generalize d.era = r at *
  have hl : r.set.length ≤ 30 ∧ r.fmt.length ≤ 30 := ⟨by
    rcases Decidable.em (r.kind = 2) with hk | hk
    · exact set_len (hr.set2 hk)
    · rw [hr.set0 hk]; decide, by have := (fmt_plain hr.fmt).2.2; omega⟩
  obtain ⟨off, kd, sv, set, fmt, ⟨is, y, m, ⟨d1, d2, d3⟩, ⟨h1, h2⟩⟩⟩ := r
  simp only at hl
  obtain ⟨sn, rfl⟩ := asBa set
  obtain ⟨sf, rfl⟩ := asBa fmt
  simp only [EraP.cells, show ∀ X : ByteArray, (⟨X.data.toList.toArray⟩ : ByteArray) = X from fun X => by simp] at HM
  rcases (by omega : x % 12 = 0 ∨ x % 12 = 1 ∨ x % 12 = 2 ∨ x % 12 = 3 ∨ x % 12 = 4 ∨ x % 12 = 5 ∨ x % 12 = 6 ∨ x % 12 = 7 ∨ x % 12 = 8 ∨ x % 12 = 9 ∨ x % 12 = 10 ∨ x % 12 = 11) with e | e | e | e | e | e | e | e | e | e | e | e
  · exact eref_0 d.cells x n (x % 12) off kd sv sn sf is y m d1 d2 d3 h1 h2 w hD (by omega) e hx hn hl (Lib.hid HM) (Lib.hid HT)
  · exact eref_1 d.cells x n (x % 12) off kd sv sn sf is y m d1 d2 d3 h1 h2 w hD (by omega) e hx hn hl (Lib.hid HM) (Lib.hid HT)
  · exact eref_2 d.cells x n (x % 12) off kd sv sn sf is y m d1 d2 d3 h1 h2 w hD (by omega) e hx hn hl (Lib.hid HM) (Lib.hid HT)
  · exact eref_3 d.cells x n (x % 12) off kd sv sn sf is y m d1 d2 d3 h1 h2 w hD (by omega) e hx hn hl (Lib.hid HM) (Lib.hid HT)
  · exact eref_4 d.cells x n (x % 12) off kd sv sn sf is y m d1 d2 d3 h1 h2 w hD (by omega) e hx hn hl (Lib.hid HM) (Lib.hid HT)
  · exact eref_5 d.cells x n (x % 12) off kd sv sn sf is y m d1 d2 d3 h1 h2 w hD (by omega) e hx hn hl (Lib.hid HM) (Lib.hid HT)
  · exact eref_6 d.cells x n (x % 12) off kd sv sn sf is y m d1 d2 d3 h1 h2 w hD (by omega) e hx hn hl (Lib.hid HM) (Lib.hid HT)
  · exact eref_7 d.cells x n (x % 12) off kd sv sn sf is y m d1 d2 d3 h1 h2 w hD (by omega) e hx hn hl (Lib.hid HM) (Lib.hid HT)
  · exact eref_8 d.cells x n (x % 12) off kd sv sn sf is y m d1 d2 d3 h1 h2 w hD (by omega) e hx hn hl (Lib.hid HM) (Lib.hid HT)
  · exact eref_9 d.cells x n (x % 12) off kd sv sn sf is y m d1 d2 d3 h1 h2 w hD (by omega) e hx hn hl (Lib.hid HM) (Lib.hid HT)
  · exact eref_10 d.cells x n (x % 12) off kd sv sn sf is y m d1 d2 d3 h1 h2 w hD (by omega) e hx hn hl (Lib.hid HM) (Lib.hid HT)
  · exact eref_11 d.cells x n (x % 12) off kd sv sn sf is y m d1 d2 d3 h1 h2 w hD (by omega) e hx hn hl (Lib.hid HM) (Lib.hid HT)
end Go.Proofs.YtbdmieelokmhiaaGreatDoor
