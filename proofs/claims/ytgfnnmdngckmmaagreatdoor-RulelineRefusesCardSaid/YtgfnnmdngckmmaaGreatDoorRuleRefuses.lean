/-
  The law RulelineRefuses: what the call returns.
-/
import Derived.Test.YtgfnnmdngckmmaaGreatDoorRuleDraft
set_option linter.unusedVariables false
namespace Go.Proofs.YtgfnnmdngckmmaaGreatDoor
open Go.RowKit
theorem rbad_name : ∀ i : Fin 4, setB ([[], [57], [97, 32, 98], [195, 169]].getD i.val []) = false := by decide +kernel
theorem rbad_lett : ∀ i : Fin 4, ([[45], [65, 66, 67, 68, 69], [97, 32, 98], [49]] : List (List UInt8)).getD i.val [] ≠ [] ∧ ofB 1 4 1 (([[45], [65, 66, 67, 68, 69], [97, 32, 98], [49]] : List (List UInt8)).getD i.val []) = false := by decide +kernel
theorem cells_of4 (W : World) (a b c d : ByteArray) (i : Nat) (s : ByteArray) (h : #[a, b, c, d][i]? = some s) : (W.alloc (.cells #[.string a, .string b, .string c, .string d] 9)).cell? ⟨W.heap.size, i, none⟩ = some (.string s) := by
  refine (Blk.new W 9 #[.string a, .string b, .string c, .string d]).cell_ ?_
  rcases (by omega : i = 0 ∨ i = 1 ∨ i = 2 ∨ i = 3 ∨ 4 ≤ i) with rfl | rfl | rfl | rfl | hi
  · cases h; rfl
  · cases h; rfl
  · cases h; rfl
  · cases h; rfl
  · rw [Array.getElem?_eq_none (by simpa using hi)] at h; cases h

set_option maxRecDepth 100000 in
set_option maxHeartbeats 1000000 in
theorem rref_0 (D : Array Value) (x n q : Nat) (sn sl : ByteArray) (fr tl mo dk dw dd hs hb sv : Int) (w : World) (hD : (Tryz.prog.info? 41).map (·.size) = some D.size) (hq : (x : Int) % 10 = (q : Int)) (hqk : q = 0) (hx : x < 256) (hn : n < 65536) (hln : sn.data.toList.length ≤ 1048576 ∧ sl.data.toList.length ≤ 1048576)
    (HM : Hid (∀ W, Calls Tryz.prog 15 #[.agg D] W fun e w' => e = .returned (.agg #[.string sn, .int .i64 fr, .int .i64 tl, .int .i64 mo, .int .i64 dk, .int .i64 dw, .int .i64 dd, .int .i64 hs, .int .i64 hb, .int .i64 sv, .string sl]) ∧ Below W.heap.size W w')) (HT : Hid (∀ W, Below w.heap.size w W → RTabs W)) :
    Calls Tryz.prog 9 #[.agg D, .int .u8 (x : Int), .int .u16 (n : Int)] w fun e w' => e = .returned (.bool true) ∧ Below w.heap.size w w' := by
  obtain ⟨i, hi⟩ : ∃ i, n % 4 = i := ⟨_, rfl⟩
  have hi4 : i < 4 := by omega
  have hiA : (0 : Int) ≤ (i : Int) := by omega
  have hiB : (i : Int) < 4 := by omega
  have hiI : (n : Int) % 4 = (i : Int) := by omega
  obtain ⟨sx, hsx⟩ : ∃ sx : ByteArray, (#[⟨#[]⟩, ⟨#[57]⟩, ⟨#[97, 32, 98]⟩, ⟨#[195, 169]⟩] : Array ByteArray)[i]? = some sx := ⟨_, Array.getElem?_eq_getElem (by simpa using hi4)⟩
  have hsl : sx.data.toList = ([[], [57], [97, 32, 98], [195, 169]] : List (List UInt8)).getD i [] := by rcases (by omega : i = 0 ∨ i = 1 ∨ i = 2 ∨ i = 3) with rfl | rfl | rfl | rfl <;> cases hsx <;> rfl
  have hc : ∀ W : World, (W.alloc (.cells #[.string ⟨#[]⟩, .string ⟨#[57]⟩, .string ⟨#[97, 32, 98]⟩, .string ⟨#[195, 169]⟩] 9)).cell? ⟨W.heap.size, i, none⟩ = some (.string sx) := fun W => cells_of4 W _ _ _ _ i sx hsx
  have hlen : sx.data.toList.length ≤ 10 := by rw [hsl]; rcases (by omega : i = 0 ∨ i = 1 ∨ i = 2 ∨ i = 3) with rfl | rfl | rfl | rfl <;> decide
  have e0 : ((q : Int) == 0) = true := by rw [beq_iff_eq]; omega
  have HP := Lib.hid (show ∀ W, Below w.heap.size w W → Calls Tryz.prog 13 #[.agg #[.string sx, .int .i64 fr, .int .i64 tl, .int .i64 mo, .int .i64 dk, .int .i64 dw, .int .i64 dd, .int .i64 hs, .int .i64 hb, .int .i64 sv, .string sl]] W fun e w' => e = .returned (.tuple #[.string ⟨#[]⟩, .int .i64 2]) ∧ Below W.heap.size W w' from fun W hW =>
    print_wrong ⟨sx.data.toList, fr, tl, mo, (dk, dw, dd), (hs, hb), sv, sl.data.toList⟩ (fun h => by have h1 := h.name; have h2 := rbad_name ⟨i, hi4⟩; simp only [hsl] at h1; rw [h1] at h2; cases h2) (by simp only; omega) W (HT.out W hW))
  have HW := Lib.hid (fun W hW => rworks_any W (HT.out W hW))
  clear hsl hi hsx hlen
  clear hqk hln
  go_enter Tryz.func9, Tryz.ntmps9
  go_wp2_with (first | (refine wpList_load_row rfl 41 (.tmp 3) rfl w.heap.size rfl 41 D (0, 0) _ (Blk.new _ _ _) Tryz.underlying41 rfl hD ?_) | fail)
  refine (HM.out _).mono ?_
  rintro e w1 ⟨rfl, hb1⟩
  have HB := Lib.hid (show Below w.heap.size w w1 from ((Below.refl _ _).alloc (Nat.le_refl _) _).trans (hb1.mono (by simp)))
  clear hb1
  go_upto_region 2 with fail
  have HG := Lib.hid (And.intro (Blk.new' w1 29 #[.string sn, .int .i64 fr, .int .i64 tl, .int .i64 mo, .int .i64 dk, .int .i64 dw, .int .i64 dd, .int .i64 hs, .int .i64 hb, .int .i64 sv, .string sl] rfl) (HB.out.alloc HB.out.size (.cells #[.string sn, .int .i64 fr, .int .i64 tl, .int .i64 mo, .int .i64 dk, .int .i64 dw, .int .i64 dd, .int .i64 hs, .int .i64 hb, .int .i64 sv, .string sl] 29)))
  generalize w1.alloc (.cells #[.string sn, .int .i64 fr, .int .i64 tl, .int .i64 mo, .int .i64 dk, .int .i64 dw, .int .i64 dd, .int .i64 hs, .int .i64 hb, .int .i64 sv, .string sl] 29) = w2 at *
  have hg : w.heap.size ≤ w1.heap.size := HB.out.size
  clear HB
  generalize w1.heap.size = g at *
  have u0 : w2.cell? ⟨g, 0, none⟩ = some (.string sn) := HG.out.1.cell_ rfl
  have y0 := HG.out.1.frozen 0
  have hl := HG.out.1.lt
  go_upto_region 23 with fail
  have HX := Lib.hid (show Blk ((w2.setCell ⟨g, 0, none⟩ (.string sx)).alloc (.cells #[.string ⟨#[]⟩, .string ⟨#[57]⟩, .string ⟨#[97, 32, 98]⟩, .string ⟨#[195, 169]⟩] 9)) g 29 #[.string sx, .int .i64 fr, .int .i64 tl, .int .i64 mo, .int .i64 dk, .int .i64 dw, .int .i64 dd, .int .i64 hs, .int .i64 hb, .int .i64 sv, .string sl] ∧ Below w.heap.size w ((w2.setCell ⟨g, 0, none⟩ (.string sx)).alloc (.cells #[.string ⟨#[]⟩, .string ⟨#[57]⟩, .string ⟨#[97, 32, 98]⟩, .string ⟨#[195, 169]⟩] 9)) from ⟨(HG.out.1.set_ 0 _).alloc _, rbelow_alloc (HG.out.2.setCell (by show w.heap.size ≤ g; exact hg) _) _⟩)
  clear HG u0 y0 hl
  generalize ((w2.setCell ⟨g, 0, none⟩ (.string sx)).alloc (.cells #[.string ⟨#[]⟩, .string ⟨#[57]⟩, .string ⟨#[97, 32, 98]⟩, .string ⟨#[195, 169]⟩] 9)) = w3 at *
  go_wp2_with (first | (refine wpList_load_row rfl 29 (.tmp 7) rfl g rfl 29 #[.string sx, .int .i64 fr, .int .i64 tl, .int .i64 mo, .int .i64 dk, .int .i64 dw, .int .i64 dd, .int .i64 hs, .int .i64 hb, .int .i64 sv, .string sl] (0, 0) _ HX.out.1 Tryz.underlying29 rfl infoRule ?_) | fail)
  refine (HP.out _ HX.out.2).mono ?_
  rintro e w4 ⟨rfl, hb2⟩
  have HB2 := Lib.hid (show Below w.heap.size w w4 from HX.out.2.trans (hb2.mono HX.out.2.size))
  clear hb2 HX
  go_wp2_with fail
  refine (HW.out _ HB2.out).mono ?_
  rintro e w3 ⟨rfl, hb3⟩
  go_wp2_with fail
  go_ret
  exact ⟨rfl, HB2.out.trans (hb3.mono HB2.out.size)⟩

set_option maxRecDepth 100000 in
set_option maxHeartbeats 1000000 in
theorem rref_1 (D : Array Value) (x n q : Nat) (sn sl : ByteArray) (fr tl mo dk dw dd hs hb sv : Int) (w : World) (hD : (Tryz.prog.info? 41).map (·.size) = some D.size) (hq : (x : Int) % 10 = (q : Int)) (hqk : q = 1) (hx : x < 256) (hn : n < 65536) (hln : sn.data.toList.length ≤ 1048576 ∧ sl.data.toList.length ≤ 1048576)
    (HM : Hid (∀ W, Calls Tryz.prog 15 #[.agg D] W fun e w' => e = .returned (.agg #[.string sn, .int .i64 fr, .int .i64 tl, .int .i64 mo, .int .i64 dk, .int .i64 dw, .int .i64 dd, .int .i64 hs, .int .i64 hb, .int .i64 sv, .string sl]) ∧ Below W.heap.size W w')) (HT : Hid (∀ W, Below w.heap.size w W → RTabs W)) :
    Calls Tryz.prog 9 #[.agg D, .int .u8 (x : Int), .int .u16 (n : Int)] w fun e w' => e = .returned (.bool true) ∧ Below w.heap.size w w' := by
  have e0 : ((q : Int) == 0) = false := by rw [beq_eq_false_iff_ne]; omega
  have e1 : ((q : Int) == 1) = true := by rw [beq_iff_eq]; omega
  have HP := Lib.hid (show ∀ W, Below w.heap.size w W → Calls Tryz.prog 13 #[.agg #[.string sn, .int .i64 (1849 - (n : Int)), .int .i64 tl, .int .i64 mo, .int .i64 dk, .int .i64 dw, .int .i64 dd, .int .i64 hs, .int .i64 hb, .int .i64 sv, .string sl]] W fun e w' => e = .returned (.tuple #[.string ⟨#[]⟩, .int .i64 2]) ∧ Below W.heap.size W w' from fun W hW =>
    print_wrong ⟨sn.data.toList, (1849 - (n : Int)), tl, mo, (dk, dw, dd), (hs, hb), sv, sl.data.toList⟩ (fun h => by have := of_decide_eq_true h.frm; simp only at this; omega) (by simp only; omega) W (HT.out W hW))
  have HW := Lib.hid (fun W hW => rworks_any W (HT.out W hW))
  clear hqk hln
  go_enter Tryz.func9, Tryz.ntmps9
  go_wp2_with (first | (refine wpList_load_row rfl 41 (.tmp 3) rfl w.heap.size rfl 41 D (0, 0) _ (Blk.new _ _ _) Tryz.underlying41 rfl hD ?_) | fail)
  refine (HM.out _).mono ?_
  rintro e w1 ⟨rfl, hb1⟩
  have HB := Lib.hid (show Below w.heap.size w w1 from ((Below.refl _ _).alloc (Nat.le_refl _) _).trans (hb1.mono (by simp)))
  clear hb1
  go_upto_region 2 with fail
  have HG := Lib.hid (And.intro (Blk.new' w1 29 #[.string sn, .int .i64 fr, .int .i64 tl, .int .i64 mo, .int .i64 dk, .int .i64 dw, .int .i64 dd, .int .i64 hs, .int .i64 hb, .int .i64 sv, .string sl] rfl) (HB.out.alloc HB.out.size (.cells #[.string sn, .int .i64 fr, .int .i64 tl, .int .i64 mo, .int .i64 dk, .int .i64 dw, .int .i64 dd, .int .i64 hs, .int .i64 hb, .int .i64 sv, .string sl] 29)))
  generalize w1.alloc (.cells #[.string sn, .int .i64 fr, .int .i64 tl, .int .i64 mo, .int .i64 dk, .int .i64 dw, .int .i64 dd, .int .i64 hs, .int .i64 hb, .int .i64 sv, .string sl] 29) = w2 at *
  have hg : w.heap.size ≤ w1.heap.size := HB.out.size
  clear HB
  generalize w1.heap.size = g at *
  have u0 : w2.cell? ⟨g, 1, none⟩ = some (.int .i64 fr) := HG.out.1.cell_ rfl
  have y0 := HG.out.1.frozen 1
  have hl := HG.out.1.lt
  go_upto_region 23 with fail
  have HX := Lib.hid (show Blk (w2.setCell ⟨g, 1, none⟩ (.int .i64 (1849 - (n : Int)))) g 29 #[.string sn, .int .i64 (1849 - (n : Int)), .int .i64 tl, .int .i64 mo, .int .i64 dk, .int .i64 dw, .int .i64 dd, .int .i64 hs, .int .i64 hb, .int .i64 sv, .string sl] ∧ Below w.heap.size w (w2.setCell ⟨g, 1, none⟩ (.int .i64 (1849 - (n : Int)))) from ⟨(HG.out.1.set_ 1 _), HG.out.2.setCell (by show w.heap.size ≤ g; exact hg) _⟩)
  clear HG u0 y0 hl
  generalize (w2.setCell ⟨g, 1, none⟩ (.int .i64 (1849 - (n : Int)))) = w3 at *
  go_wp2_with (first | (refine wpList_load_row rfl 29 (.tmp 7) rfl g rfl 29 #[.string sn, .int .i64 (1849 - (n : Int)), .int .i64 tl, .int .i64 mo, .int .i64 dk, .int .i64 dw, .int .i64 dd, .int .i64 hs, .int .i64 hb, .int .i64 sv, .string sl] (0, 0) _ HX.out.1 Tryz.underlying29 rfl infoRule ?_) | fail)
  refine (HP.out _ HX.out.2).mono ?_
  rintro e w4 ⟨rfl, hb2⟩
  have HB2 := Lib.hid (show Below w.heap.size w w4 from HX.out.2.trans (hb2.mono HX.out.2.size))
  clear hb2 HX
  go_wp2_with fail
  refine (HW.out _ HB2.out).mono ?_
  rintro e w3 ⟨rfl, hb3⟩
  go_wp2_with fail
  go_ret
  exact ⟨rfl, HB2.out.trans (hb3.mono HB2.out.size)⟩

set_option maxRecDepth 100000 in
set_option maxHeartbeats 1000000 in
theorem rref_2 (D : Array Value) (x n q : Nat) (sn sl : ByteArray) (fr tl mo dk dw dd hs hb sv : Int) (w : World) (hD : (Tryz.prog.info? 41).map (·.size) = some D.size) (hq : (x : Int) % 10 = (q : Int)) (hqk : q = 2) (hx : x < 256) (hn : n < 65536) (hln : sn.data.toList.length ≤ 1048576 ∧ sl.data.toList.length ≤ 1048576)
    (HM : Hid (∀ W, Calls Tryz.prog 15 #[.agg D] W fun e w' => e = .returned (.agg #[.string sn, .int .i64 fr, .int .i64 tl, .int .i64 mo, .int .i64 dk, .int .i64 dw, .int .i64 dd, .int .i64 hs, .int .i64 hb, .int .i64 sv, .string sl]) ∧ Below W.heap.size W w')) (HT : Hid (∀ W, Below w.heap.size w W → RTabs W)) :
    Calls Tryz.prog 9 #[.agg D, .int .u8 (x : Int), .int .u16 (n : Int)] w fun e w' => e = .returned (.bool true) ∧ Below w.heap.size w w' := by
  have e0 : ((q : Int) == 0) = false := by rw [beq_eq_false_iff_ne]; omega
  have e1 : ((q : Int) == 1) = false := by rw [beq_eq_false_iff_ne]; omega
  have e2 : ((q : Int) == 2) = true := by rw [beq_iff_eq]; omega
  have HP := Lib.hid (show ∀ W, Below w.heap.size w W → Calls Tryz.prog 13 #[.agg #[.string sn, .int .i64 (2150 + (n : Int)), .int .i64 tl, .int .i64 mo, .int .i64 dk, .int .i64 dw, .int .i64 dd, .int .i64 hs, .int .i64 hb, .int .i64 sv, .string sl]] W fun e w' => e = .returned (.tuple #[.string ⟨#[]⟩, .int .i64 2]) ∧ Below W.heap.size W w' from fun W hW =>
    print_wrong ⟨sn.data.toList, (2150 + (n : Int)), tl, mo, (dk, dw, dd), (hs, hb), sv, sl.data.toList⟩ (fun h => by have := of_decide_eq_true h.frm; simp only at this; omega) (by simp only; omega) W (HT.out W hW))
  have HW := Lib.hid (fun W hW => rworks_any W (HT.out W hW))
  clear hqk hln
  go_enter Tryz.func9, Tryz.ntmps9
  go_wp2_with (first | (refine wpList_load_row rfl 41 (.tmp 3) rfl w.heap.size rfl 41 D (0, 0) _ (Blk.new _ _ _) Tryz.underlying41 rfl hD ?_) | fail)
  refine (HM.out _).mono ?_
  rintro e w1 ⟨rfl, hb1⟩
  have HB := Lib.hid (show Below w.heap.size w w1 from ((Below.refl _ _).alloc (Nat.le_refl _) _).trans (hb1.mono (by simp)))
  clear hb1
  go_upto_region 2 with fail
  have HG := Lib.hid (And.intro (Blk.new' w1 29 #[.string sn, .int .i64 fr, .int .i64 tl, .int .i64 mo, .int .i64 dk, .int .i64 dw, .int .i64 dd, .int .i64 hs, .int .i64 hb, .int .i64 sv, .string sl] rfl) (HB.out.alloc HB.out.size (.cells #[.string sn, .int .i64 fr, .int .i64 tl, .int .i64 mo, .int .i64 dk, .int .i64 dw, .int .i64 dd, .int .i64 hs, .int .i64 hb, .int .i64 sv, .string sl] 29)))
  generalize w1.alloc (.cells #[.string sn, .int .i64 fr, .int .i64 tl, .int .i64 mo, .int .i64 dk, .int .i64 dw, .int .i64 dd, .int .i64 hs, .int .i64 hb, .int .i64 sv, .string sl] 29) = w2 at *
  have hg : w.heap.size ≤ w1.heap.size := HB.out.size
  clear HB
  generalize w1.heap.size = g at *
  have u0 : w2.cell? ⟨g, 1, none⟩ = some (.int .i64 fr) := HG.out.1.cell_ rfl
  have y0 := HG.out.1.frozen 1
  have hl := HG.out.1.lt
  go_upto_region 23 with fail
  have HX := Lib.hid (show Blk (w2.setCell ⟨g, 1, none⟩ (.int .i64 (2150 + (n : Int)))) g 29 #[.string sn, .int .i64 (2150 + (n : Int)), .int .i64 tl, .int .i64 mo, .int .i64 dk, .int .i64 dw, .int .i64 dd, .int .i64 hs, .int .i64 hb, .int .i64 sv, .string sl] ∧ Below w.heap.size w (w2.setCell ⟨g, 1, none⟩ (.int .i64 (2150 + (n : Int)))) from ⟨(HG.out.1.set_ 1 _), HG.out.2.setCell (by show w.heap.size ≤ g; exact hg) _⟩)
  clear HG u0 y0 hl
  generalize (w2.setCell ⟨g, 1, none⟩ (.int .i64 (2150 + (n : Int)))) = w3 at *
  go_wp2_with (first | (refine wpList_load_row rfl 29 (.tmp 7) rfl g rfl 29 #[.string sn, .int .i64 (2150 + (n : Int)), .int .i64 tl, .int .i64 mo, .int .i64 dk, .int .i64 dw, .int .i64 dd, .int .i64 hs, .int .i64 hb, .int .i64 sv, .string sl] (0, 0) _ HX.out.1 Tryz.underlying29 rfl infoRule ?_) | fail)
  refine (HP.out _ HX.out.2).mono ?_
  rintro e w4 ⟨rfl, hb2⟩
  have HB2 := Lib.hid (show Below w.heap.size w w4 from HX.out.2.trans (hb2.mono HX.out.2.size))
  clear hb2 HX
  go_wp2_with fail
  refine (HW.out _ HB2.out).mono ?_
  rintro e w3 ⟨rfl, hb3⟩
  go_wp2_with fail
  go_ret
  exact ⟨rfl, HB2.out.trans (hb3.mono HB2.out.size)⟩

set_option maxRecDepth 100000 in
set_option maxHeartbeats 1000000 in
theorem rref_3 (D : Array Value) (x n q : Nat) (sn sl : ByteArray) (fr tl mo dk dw dd hs hb sv : Int) (w : World) (hD : (Tryz.prog.info? 41).map (·.size) = some D.size) (hq : (x : Int) % 10 = (q : Int)) (hqk : q = 3) (hx : x < 256) (hn : n < 65536) (hln : sn.data.toList.length ≤ 1048576 ∧ sl.data.toList.length ≤ 1048576)
    (HM : Hid (∀ W, Calls Tryz.prog 15 #[.agg D] W fun e w' => e = .returned (.agg #[.string sn, .int .i64 fr, .int .i64 tl, .int .i64 mo, .int .i64 dk, .int .i64 dw, .int .i64 dd, .int .i64 hs, .int .i64 hb, .int .i64 sv, .string sl]) ∧ Below W.heap.size W w')) (HT : Hid (∀ W, Below w.heap.size w W → RTabs W)) :
    Calls Tryz.prog 9 #[.agg D, .int .u8 (x : Int), .int .u16 (n : Int)] w fun e w' => e = .returned (.bool true) ∧ Below w.heap.size w w' := by
  have e0 : ((q : Int) == 0) = false := by rw [beq_eq_false_iff_ne]; omega
  have e1 : ((q : Int) == 1) = false := by rw [beq_eq_false_iff_ne]; omega
  have e2 : ((q : Int) == 2) = false := by rw [beq_eq_false_iff_ne]; omega
  have e3 : ((q : Int) == 3) = true := by rw [beq_iff_eq]; omega
  have HP := Lib.hid (show ∀ W, Below w.heap.size w W → Calls Tryz.prog 13 #[.agg #[.string sn, .int .i64 fr, .int .i64 (1048577 + (n : Int)), .int .i64 mo, .int .i64 dk, .int .i64 dw, .int .i64 dd, .int .i64 hs, .int .i64 hb, .int .i64 sv, .string sl]] W fun e w' => e = .returned (.tuple #[.string ⟨#[]⟩, .int .i64 2]) ∧ Below W.heap.size W w' from fun W hW =>
    print_wrong ⟨sn.data.toList, fr, (1048577 + (n : Int)), mo, (dk, dw, dd), (hs, hb), sv, sl.data.toList⟩ (fun h => h.til.elim (fun h => by have := of_decide_eq_true h; simp only at this; omega) (fun h => by simp only at h; omega)) (by simp only; omega) W (HT.out W hW))
  have HW := Lib.hid (fun W hW => rworks_any W (HT.out W hW))
  clear hqk hln
  go_enter Tryz.func9, Tryz.ntmps9
  go_wp2_with (first | (refine wpList_load_row rfl 41 (.tmp 3) rfl w.heap.size rfl 41 D (0, 0) _ (Blk.new _ _ _) Tryz.underlying41 rfl hD ?_) | fail)
  refine (HM.out _).mono ?_
  rintro e w1 ⟨rfl, hb1⟩
  have HB := Lib.hid (show Below w.heap.size w w1 from ((Below.refl _ _).alloc (Nat.le_refl _) _).trans (hb1.mono (by simp)))
  clear hb1
  go_upto_region 2 with fail
  have HG := Lib.hid (And.intro (Blk.new' w1 29 #[.string sn, .int .i64 fr, .int .i64 tl, .int .i64 mo, .int .i64 dk, .int .i64 dw, .int .i64 dd, .int .i64 hs, .int .i64 hb, .int .i64 sv, .string sl] rfl) (HB.out.alloc HB.out.size (.cells #[.string sn, .int .i64 fr, .int .i64 tl, .int .i64 mo, .int .i64 dk, .int .i64 dw, .int .i64 dd, .int .i64 hs, .int .i64 hb, .int .i64 sv, .string sl] 29)))
  generalize w1.alloc (.cells #[.string sn, .int .i64 fr, .int .i64 tl, .int .i64 mo, .int .i64 dk, .int .i64 dw, .int .i64 dd, .int .i64 hs, .int .i64 hb, .int .i64 sv, .string sl] 29) = w2 at *
  have hg : w.heap.size ≤ w1.heap.size := HB.out.size
  clear HB
  generalize w1.heap.size = g at *
  have u0 : w2.cell? ⟨g, 2, none⟩ = some (.int .i64 tl) := HG.out.1.cell_ rfl
  have y0 := HG.out.1.frozen 2
  have hl := HG.out.1.lt
  go_upto_region 23 with fail
  have HX := Lib.hid (show Blk (w2.setCell ⟨g, 2, none⟩ (.int .i64 (1048577 + (n : Int)))) g 29 #[.string sn, .int .i64 fr, .int .i64 (1048577 + (n : Int)), .int .i64 mo, .int .i64 dk, .int .i64 dw, .int .i64 dd, .int .i64 hs, .int .i64 hb, .int .i64 sv, .string sl] ∧ Below w.heap.size w (w2.setCell ⟨g, 2, none⟩ (.int .i64 (1048577 + (n : Int)))) from ⟨(HG.out.1.set_ 2 _), HG.out.2.setCell (by show w.heap.size ≤ g; exact hg) _⟩)
  clear HG u0 y0 hl
  generalize (w2.setCell ⟨g, 2, none⟩ (.int .i64 (1048577 + (n : Int)))) = w3 at *
  go_wp2_with (first | (refine wpList_load_row rfl 29 (.tmp 7) rfl g rfl 29 #[.string sn, .int .i64 fr, .int .i64 (1048577 + (n : Int)), .int .i64 mo, .int .i64 dk, .int .i64 dw, .int .i64 dd, .int .i64 hs, .int .i64 hb, .int .i64 sv, .string sl] (0, 0) _ HX.out.1 Tryz.underlying29 rfl infoRule ?_) | fail)
  refine (HP.out _ HX.out.2).mono ?_
  rintro e w4 ⟨rfl, hb2⟩
  have HB2 := Lib.hid (show Below w.heap.size w w4 from HX.out.2.trans (hb2.mono HX.out.2.size))
  clear hb2 HX
  go_wp2_with fail
  refine (HW.out _ HB2.out).mono ?_
  rintro e w3 ⟨rfl, hb3⟩
  go_wp2_with fail
  go_ret
  exact ⟨rfl, HB2.out.trans (hb3.mono HB2.out.size)⟩

set_option maxRecDepth 100000 in
set_option maxHeartbeats 1000000 in
theorem rref_4 (D : Array Value) (x n q : Nat) (sn sl : ByteArray) (fr tl mo dk dw dd hs hb sv : Int) (w : World) (hD : (Tryz.prog.info? 41).map (·.size) = some D.size) (hq : (x : Int) % 10 = (q : Int)) (hqk : q = 4) (hx : x < 256) (hn : n < 65536) (hln : sn.data.toList.length ≤ 1048576 ∧ sl.data.toList.length ≤ 1048576)
    (HM : Hid (∀ W, Calls Tryz.prog 15 #[.agg D] W fun e w' => e = .returned (.agg #[.string sn, .int .i64 fr, .int .i64 tl, .int .i64 mo, .int .i64 dk, .int .i64 dw, .int .i64 dd, .int .i64 hs, .int .i64 hb, .int .i64 sv, .string sl]) ∧ Below W.heap.size W w')) (HT : Hid (∀ W, Below w.heap.size w W → RTabs W)) :
    Calls Tryz.prog 9 #[.agg D, .int .u8 (x : Int), .int .u16 (n : Int)] w fun e w' => e = .returned (.bool true) ∧ Below w.heap.size w w' := by
  have e0 : ((q : Int) == 0) = false := by rw [beq_eq_false_iff_ne]; omega
  have e1 : ((q : Int) == 1) = false := by rw [beq_eq_false_iff_ne]; omega
  have e2 : ((q : Int) == 2) = false := by rw [beq_eq_false_iff_ne]; omega
  have e3 : ((q : Int) == 3) = false := by rw [beq_eq_false_iff_ne]; omega
  have e4 : ((q : Int) == 4) = true := by rw [beq_iff_eq]; omega
  have HP := Lib.hid (show ∀ W, Below w.heap.size w W → Calls Tryz.prog 13 #[.agg #[.string sn, .int .i64 fr, .int .i64 (1849 - (n : Int)), .int .i64 mo, .int .i64 dk, .int .i64 dw, .int .i64 dd, .int .i64 hs, .int .i64 hb, .int .i64 sv, .string sl]] W fun e w' => e = .returned (.tuple #[.string ⟨#[]⟩, .int .i64 2]) ∧ Below W.heap.size W w' from fun W hW =>
    print_wrong ⟨sn.data.toList, fr, (1849 - (n : Int)), mo, (dk, dw, dd), (hs, hb), sv, sl.data.toList⟩ (fun h => h.til.elim (fun h => by have := of_decide_eq_true h; simp only at this; omega) (fun h => by simp only at h; omega)) (by simp only; omega) W (HT.out W hW))
  have HW := Lib.hid (fun W hW => rworks_any W (HT.out W hW))
  clear hqk hln
  go_enter Tryz.func9, Tryz.ntmps9
  go_wp2_with (first | (refine wpList_load_row rfl 41 (.tmp 3) rfl w.heap.size rfl 41 D (0, 0) _ (Blk.new _ _ _) Tryz.underlying41 rfl hD ?_) | fail)
  refine (HM.out _).mono ?_
  rintro e w1 ⟨rfl, hb1⟩
  have HB := Lib.hid (show Below w.heap.size w w1 from ((Below.refl _ _).alloc (Nat.le_refl _) _).trans (hb1.mono (by simp)))
  clear hb1
  go_upto_region 2 with fail
  have HG := Lib.hid (And.intro (Blk.new' w1 29 #[.string sn, .int .i64 fr, .int .i64 tl, .int .i64 mo, .int .i64 dk, .int .i64 dw, .int .i64 dd, .int .i64 hs, .int .i64 hb, .int .i64 sv, .string sl] rfl) (HB.out.alloc HB.out.size (.cells #[.string sn, .int .i64 fr, .int .i64 tl, .int .i64 mo, .int .i64 dk, .int .i64 dw, .int .i64 dd, .int .i64 hs, .int .i64 hb, .int .i64 sv, .string sl] 29)))
  generalize w1.alloc (.cells #[.string sn, .int .i64 fr, .int .i64 tl, .int .i64 mo, .int .i64 dk, .int .i64 dw, .int .i64 dd, .int .i64 hs, .int .i64 hb, .int .i64 sv, .string sl] 29) = w2 at *
  have hg : w.heap.size ≤ w1.heap.size := HB.out.size
  clear HB
  generalize w1.heap.size = g at *
  have u0 : w2.cell? ⟨g, 2, none⟩ = some (.int .i64 tl) := HG.out.1.cell_ rfl
  have y0 := HG.out.1.frozen 2
  have hl := HG.out.1.lt
  go_upto_region 23 with fail
  have HX := Lib.hid (show Blk (w2.setCell ⟨g, 2, none⟩ (.int .i64 (1849 - (n : Int)))) g 29 #[.string sn, .int .i64 fr, .int .i64 (1849 - (n : Int)), .int .i64 mo, .int .i64 dk, .int .i64 dw, .int .i64 dd, .int .i64 hs, .int .i64 hb, .int .i64 sv, .string sl] ∧ Below w.heap.size w (w2.setCell ⟨g, 2, none⟩ (.int .i64 (1849 - (n : Int)))) from ⟨(HG.out.1.set_ 2 _), HG.out.2.setCell (by show w.heap.size ≤ g; exact hg) _⟩)
  clear HG u0 y0 hl
  generalize (w2.setCell ⟨g, 2, none⟩ (.int .i64 (1849 - (n : Int)))) = w3 at *
  go_wp2_with (first | (refine wpList_load_row rfl 29 (.tmp 7) rfl g rfl 29 #[.string sn, .int .i64 fr, .int .i64 (1849 - (n : Int)), .int .i64 mo, .int .i64 dk, .int .i64 dw, .int .i64 dd, .int .i64 hs, .int .i64 hb, .int .i64 sv, .string sl] (0, 0) _ HX.out.1 Tryz.underlying29 rfl infoRule ?_) | fail)
  refine (HP.out _ HX.out.2).mono ?_
  rintro e w4 ⟨rfl, hb2⟩
  have HB2 := Lib.hid (show Below w.heap.size w w4 from HX.out.2.trans (hb2.mono HX.out.2.size))
  clear hb2 HX
  go_wp2_with fail
  refine (HW.out _ HB2.out).mono ?_
  rintro e w3 ⟨rfl, hb3⟩
  go_wp2_with fail
  go_ret
  exact ⟨rfl, HB2.out.trans (hb3.mono HB2.out.size)⟩

set_option maxRecDepth 100000 in
set_option maxHeartbeats 1000000 in
theorem rref_5 (D : Array Value) (x n q : Nat) (sn sl : ByteArray) (fr tl mo dk dw dd hs hb sv : Int) (w : World) (hD : (Tryz.prog.info? 41).map (·.size) = some D.size) (hq : (x : Int) % 10 = (q : Int)) (hqk : q = 5) (hx : x < 256) (hn : n < 65536) (hln : sn.data.toList.length ≤ 1048576 ∧ sl.data.toList.length ≤ 1048576)
    (HM : Hid (∀ W, Calls Tryz.prog 15 #[.agg D] W fun e w' => e = .returned (.agg #[.string sn, .int .i64 fr, .int .i64 tl, .int .i64 mo, .int .i64 dk, .int .i64 dw, .int .i64 dd, .int .i64 hs, .int .i64 hb, .int .i64 sv, .string sl]) ∧ Below W.heap.size W w')) (HT : Hid (∀ W, Below w.heap.size w W → RTabs W)) :
    Calls Tryz.prog 9 #[.agg D, .int .u8 (x : Int), .int .u16 (n : Int)] w fun e w' => e = .returned (.bool true) ∧ Below w.heap.size w w' := by
  obtain ⟨i, hi⟩ : ∃ i, n % 2 = i := ⟨_, rfl⟩
  have hi4 : i < 2 := by omega
  have hiA : (0 : Int) ≤ (i : Int) := by omega
  have hiB : (i : Int) < 2 := by omega
  have hiI : (n : Int) % 2 = (i : Int) := by omega
  obtain ⟨mx, hmx⟩ : ∃ mx : Int, (#[-(n : Int), 13 + (n : Int)] : Array Int)[i]? = some mx := ⟨_, Array.getElem?_eq_getElem (by simpa using hi4)⟩
  have hmb : mx < 1 ∨ 12 < mx := by rcases (by omega : i = 0 ∨ i = 1) with rfl | rfl <;> simp at hmx <;> omega
  have hc : ∀ W : World, (W.alloc (.cells #[.int .i64 (-(n : Int)), .int .i64 (13 + (n : Int))] 3)).cell? ⟨W.heap.size, i, none⟩ = some (.int .i64 mx) := fun W => (Blk.new W 3 _).cell_ (by rcases (by omega : i = 0 ∨ i = 1) with rfl | rfl <;> cases hmx <;> rfl)
  have e0 : ((q : Int) == 0) = false := by rw [beq_eq_false_iff_ne]; omega
  have e1 : ((q : Int) == 1) = false := by rw [beq_eq_false_iff_ne]; omega
  have e2 : ((q : Int) == 2) = false := by rw [beq_eq_false_iff_ne]; omega
  have e3 : ((q : Int) == 3) = false := by rw [beq_eq_false_iff_ne]; omega
  have e4 : ((q : Int) == 4) = false := by rw [beq_eq_false_iff_ne]; omega
  have e5 : ((q : Int) == 5) = true := by rw [beq_iff_eq]; omega
  have HP := Lib.hid (show ∀ W, Below w.heap.size w W → Calls Tryz.prog 13 #[.agg #[.string sn, .int .i64 fr, .int .i64 tl, .int .i64 mx, .int .i64 dk, .int .i64 dw, .int .i64 dd, .int .i64 hs, .int .i64 hb, .int .i64 sv, .string sl]] W fun e w' => e = .returned (.tuple #[.string ⟨#[]⟩, .int .i64 2]) ∧ Below W.heap.size W w' from fun W hW =>
    print_wrong ⟨sn.data.toList, fr, tl, mx, (dk, dw, dd), (hs, hb), sv, sl.data.toList⟩ (fun h => by have := h.mon; simp only at this; omega) (by simp only; omega) W (HT.out W hW))
  have HW := Lib.hid (fun W hW => rworks_any W (HT.out W hW))
  clear hi hmx hmb
  clear hqk hln
  go_enter Tryz.func9, Tryz.ntmps9
  go_wp2_with (first | (refine wpList_load_row rfl 41 (.tmp 3) rfl w.heap.size rfl 41 D (0, 0) _ (Blk.new _ _ _) Tryz.underlying41 rfl hD ?_) | fail)
  refine (HM.out _).mono ?_
  rintro e w1 ⟨rfl, hb1⟩
  have HB := Lib.hid (show Below w.heap.size w w1 from ((Below.refl _ _).alloc (Nat.le_refl _) _).trans (hb1.mono (by simp)))
  clear hb1
  go_upto_region 2 with fail
  have HG := Lib.hid (And.intro (Blk.new' w1 29 #[.string sn, .int .i64 fr, .int .i64 tl, .int .i64 mo, .int .i64 dk, .int .i64 dw, .int .i64 dd, .int .i64 hs, .int .i64 hb, .int .i64 sv, .string sl] rfl) (HB.out.alloc HB.out.size (.cells #[.string sn, .int .i64 fr, .int .i64 tl, .int .i64 mo, .int .i64 dk, .int .i64 dw, .int .i64 dd, .int .i64 hs, .int .i64 hb, .int .i64 sv, .string sl] 29)))
  generalize w1.alloc (.cells #[.string sn, .int .i64 fr, .int .i64 tl, .int .i64 mo, .int .i64 dk, .int .i64 dw, .int .i64 dd, .int .i64 hs, .int .i64 hb, .int .i64 sv, .string sl] 29) = w2 at *
  have hg : w.heap.size ≤ w1.heap.size := HB.out.size
  clear HB
  generalize w1.heap.size = g at *
  have u0 : w2.cell? ⟨g, 3, none⟩ = some (.int .i64 mo) := HG.out.1.cell_ rfl
  have y0 := HG.out.1.frozen 3
  have hl := HG.out.1.lt
  go_upto_region 23 with fail
  have HX := Lib.hid (show Blk ((w2.setCell ⟨g, 3, none⟩ (.int .i64 mx)).alloc (.cells #[.int .i64 (-(n : Int)), .int .i64 (13 + (n : Int))] 3)) g 29 #[.string sn, .int .i64 fr, .int .i64 tl, .int .i64 mx, .int .i64 dk, .int .i64 dw, .int .i64 dd, .int .i64 hs, .int .i64 hb, .int .i64 sv, .string sl] ∧ Below w.heap.size w ((w2.setCell ⟨g, 3, none⟩ (.int .i64 mx)).alloc (.cells #[.int .i64 (-(n : Int)), .int .i64 (13 + (n : Int))] 3)) from ⟨(HG.out.1.set_ 3 _).alloc _, rbelow_alloc (HG.out.2.setCell (by show w.heap.size ≤ g; exact hg) _) _⟩)
  clear HG u0 y0 hl
  generalize ((w2.setCell ⟨g, 3, none⟩ (.int .i64 mx)).alloc (.cells #[.int .i64 (-(n : Int)), .int .i64 (13 + (n : Int))] 3)) = w3 at *
  go_wp2_with (first | (refine wpList_load_row rfl 29 (.tmp 7) rfl g rfl 29 #[.string sn, .int .i64 fr, .int .i64 tl, .int .i64 mx, .int .i64 dk, .int .i64 dw, .int .i64 dd, .int .i64 hs, .int .i64 hb, .int .i64 sv, .string sl] (0, 0) _ HX.out.1 Tryz.underlying29 rfl infoRule ?_) | fail)
  refine (HP.out _ HX.out.2).mono ?_
  rintro e w4 ⟨rfl, hb2⟩
  have HB2 := Lib.hid (show Below w.heap.size w w4 from HX.out.2.trans (hb2.mono HX.out.2.size))
  clear hb2 HX
  go_wp2_with fail
  refine (HW.out _ HB2.out).mono ?_
  rintro e w3 ⟨rfl, hb3⟩
  go_wp2_with fail
  go_ret
  exact ⟨rfl, HB2.out.trans (hb3.mono HB2.out.size)⟩

set_option maxRecDepth 100000 in
set_option maxHeartbeats 1000000 in
theorem rref_6 (D : Array Value) (x n q : Nat) (sn sl : ByteArray) (fr tl mo dk dw dd hs hb sv : Int) (w : World) (hD : (Tryz.prog.info? 41).map (·.size) = some D.size) (hq : (x : Int) % 10 = (q : Int)) (hqk : q = 6) (hx : x < 256) (hn : n < 65536) (hln : sn.data.toList.length ≤ 1048576 ∧ sl.data.toList.length ≤ 1048576)
    (HM : Hid (∀ W, Calls Tryz.prog 15 #[.agg D] W fun e w' => e = .returned (.agg #[.string sn, .int .i64 fr, .int .i64 tl, .int .i64 mo, .int .i64 dk, .int .i64 dw, .int .i64 dd, .int .i64 hs, .int .i64 hb, .int .i64 sv, .string sl]) ∧ Below W.heap.size W w')) (HT : Hid (∀ W, Below w.heap.size w W → RTabs W)) :
    Calls Tryz.prog 9 #[.agg D, .int .u8 (x : Int), .int .u16 (n : Int)] w fun e w' => e = .returned (.bool true) ∧ Below w.heap.size w w' := by
  have e0 : ((q : Int) == 0) = false := by rw [beq_eq_false_iff_ne]; omega
  have e1 : ((q : Int) == 1) = false := by rw [beq_eq_false_iff_ne]; omega
  have e2 : ((q : Int) == 2) = false := by rw [beq_eq_false_iff_ne]; omega
  have e3 : ((q : Int) == 3) = false := by rw [beq_eq_false_iff_ne]; omega
  have e4 : ((q : Int) == 4) = false := by rw [beq_eq_false_iff_ne]; omega
  have e5 : ((q : Int) == 5) = false := by rw [beq_eq_false_iff_ne]; omega
  have e6 : ((q : Int) == 6) = true := by rw [beq_iff_eq]; omega
  have HP := Lib.hid (show ∀ W, Below w.heap.size w W → Calls Tryz.prog 13 #[.agg #[.string sn, .int .i64 fr, .int .i64 tl, .int .i64 mo, .int .i64 (5 + (n : Int)), .int .i64 dw, .int .i64 dd, .int .i64 hs, .int .i64 hb, .int .i64 sv, .string sl]] W fun e w' => e = .returned (.tuple #[.string ⟨#[]⟩, .int .i64 2]) ∧ Below W.heap.size W w' from fun W hW =>
    print_wrong ⟨sn.data.toList, fr, tl, mo, ((5 + (n : Int)), dw, dd), (hs, hb), sv, sl.data.toList⟩ (fun h => by have := (right_bd h.day).2.1; simp only at this; omega) (by simp only; omega) W (HT.out W hW))
  have HW := Lib.hid (fun W hW => rworks_any W (HT.out W hW))
  clear hqk hln
  go_enter Tryz.func9, Tryz.ntmps9
  go_wp2_with (first | (refine wpList_load_row rfl 41 (.tmp 3) rfl w.heap.size rfl 41 D (0, 0) _ (Blk.new _ _ _) Tryz.underlying41 rfl hD ?_) | fail)
  refine (HM.out _).mono ?_
  rintro e w1 ⟨rfl, hb1⟩
  have HB := Lib.hid (show Below w.heap.size w w1 from ((Below.refl _ _).alloc (Nat.le_refl _) _).trans (hb1.mono (by simp)))
  clear hb1
  go_upto_region 2 with fail
  have HG := Lib.hid (And.intro (Blk.new' w1 29 #[.string sn, .int .i64 fr, .int .i64 tl, .int .i64 mo, .int .i64 dk, .int .i64 dw, .int .i64 dd, .int .i64 hs, .int .i64 hb, .int .i64 sv, .string sl] rfl) (HB.out.alloc HB.out.size (.cells #[.string sn, .int .i64 fr, .int .i64 tl, .int .i64 mo, .int .i64 dk, .int .i64 dw, .int .i64 dd, .int .i64 hs, .int .i64 hb, .int .i64 sv, .string sl] 29)))
  generalize w1.alloc (.cells #[.string sn, .int .i64 fr, .int .i64 tl, .int .i64 mo, .int .i64 dk, .int .i64 dw, .int .i64 dd, .int .i64 hs, .int .i64 hb, .int .i64 sv, .string sl] 29) = w2 at *
  have hg : w.heap.size ≤ w1.heap.size := HB.out.size
  clear HB
  generalize w1.heap.size = g at *
  have u0 : w2.cell? ⟨g, 4, none⟩ = some (.int .i64 dk) := HG.out.1.cell_ rfl
  have y0 := HG.out.1.frozen 4
  have hl := HG.out.1.lt
  go_upto_region 23 with fail
  have HX := Lib.hid (show Blk (w2.setCell ⟨g, 4, none⟩ (.int .i64 (5 + (n : Int)))) g 29 #[.string sn, .int .i64 fr, .int .i64 tl, .int .i64 mo, .int .i64 (5 + (n : Int)), .int .i64 dw, .int .i64 dd, .int .i64 hs, .int .i64 hb, .int .i64 sv, .string sl] ∧ Below w.heap.size w (w2.setCell ⟨g, 4, none⟩ (.int .i64 (5 + (n : Int)))) from ⟨(HG.out.1.set_ 4 _), HG.out.2.setCell (by show w.heap.size ≤ g; exact hg) _⟩)
  clear HG u0 y0 hl
  generalize (w2.setCell ⟨g, 4, none⟩ (.int .i64 (5 + (n : Int)))) = w3 at *
  go_wp2_with (first | (refine wpList_load_row rfl 29 (.tmp 7) rfl g rfl 29 #[.string sn, .int .i64 fr, .int .i64 tl, .int .i64 mo, .int .i64 (5 + (n : Int)), .int .i64 dw, .int .i64 dd, .int .i64 hs, .int .i64 hb, .int .i64 sv, .string sl] (0, 0) _ HX.out.1 Tryz.underlying29 rfl infoRule ?_) | fail)
  refine (HP.out _ HX.out.2).mono ?_
  rintro e w4 ⟨rfl, hb2⟩
  have HB2 := Lib.hid (show Below w.heap.size w w4 from HX.out.2.trans (hb2.mono HX.out.2.size))
  clear hb2 HX
  go_wp2_with fail
  refine (HW.out _ HB2.out).mono ?_
  rintro e w3 ⟨rfl, hb3⟩
  go_wp2_with fail
  go_ret
  exact ⟨rfl, HB2.out.trans (hb3.mono HB2.out.size)⟩

set_option maxRecDepth 100000 in
set_option maxHeartbeats 1000000 in
theorem rref_7 (D : Array Value) (x n q : Nat) (sn sl : ByteArray) (fr tl mo dk dw dd hs hb sv : Int) (w : World) (hD : (Tryz.prog.info? 41).map (·.size) = some D.size) (hq : (x : Int) % 10 = (q : Int)) (hqk : q = 7) (hx : x < 256) (hn : n < 65536) (hln : sn.data.toList.length ≤ 1048576 ∧ sl.data.toList.length ≤ 1048576)
    (HM : Hid (∀ W, Calls Tryz.prog 15 #[.agg D] W fun e w' => e = .returned (.agg #[.string sn, .int .i64 fr, .int .i64 tl, .int .i64 mo, .int .i64 dk, .int .i64 dw, .int .i64 dd, .int .i64 hs, .int .i64 hb, .int .i64 sv, .string sl]) ∧ Below W.heap.size W w')) (HT : Hid (∀ W, Below w.heap.size w W → RTabs W)) :
    Calls Tryz.prog 9 #[.agg D, .int .u8 (x : Int), .int .u16 (n : Int)] w fun e w' => e = .returned (.bool true) ∧ Below w.heap.size w w' := by
  have e0 : ((q : Int) == 0) = false := by rw [beq_eq_false_iff_ne]; omega
  have e1 : ((q : Int) == 1) = false := by rw [beq_eq_false_iff_ne]; omega
  have e2 : ((q : Int) == 2) = false := by rw [beq_eq_false_iff_ne]; omega
  have e3 : ((q : Int) == 3) = false := by rw [beq_eq_false_iff_ne]; omega
  have e4 : ((q : Int) == 4) = false := by rw [beq_eq_false_iff_ne]; omega
  have e5 : ((q : Int) == 5) = false := by rw [beq_eq_false_iff_ne]; omega
  have e6 : ((q : Int) == 6) = false := by rw [beq_eq_false_iff_ne]; omega
  have e7 : ((q : Int) == 7) = true := by rw [beq_iff_eq]; omega
  have HP := Lib.hid (show ∀ W, Below w.heap.size w W → Calls Tryz.prog 13 #[.agg #[.string sn, .int .i64 fr, .int .i64 tl, .int .i64 mo, .int .i64 dk, .int .i64 dw, .int .i64 dd, .int .i64 (604800 + (n : Int)), .int .i64 hb, .int .i64 sv, .string sl]] W fun e w' => e = .returned (.tuple #[.string ⟨#[]⟩, .int .i64 2]) ∧ Below W.heap.size W w' from fun W hW =>
    print_wrong ⟨sn.data.toList, fr, tl, mo, (dk, dw, dd), ((604800 + (n : Int)), hb), sv, sl.data.toList⟩ (fun h => by have := h.hour; simp only [clockOk, Bool.and_eq_true, decide_eq_true_eq] at this; omega) (by simp only; omega) W (HT.out W hW))
  have HW := Lib.hid (fun W hW => rworks_any W (HT.out W hW))
  clear hqk hln
  go_enter Tryz.func9, Tryz.ntmps9
  go_wp2_with (first | (refine wpList_load_row rfl 41 (.tmp 3) rfl w.heap.size rfl 41 D (0, 0) _ (Blk.new _ _ _) Tryz.underlying41 rfl hD ?_) | fail)
  refine (HM.out _).mono ?_
  rintro e w1 ⟨rfl, hb1⟩
  have HB := Lib.hid (show Below w.heap.size w w1 from ((Below.refl _ _).alloc (Nat.le_refl _) _).trans (hb1.mono (by simp)))
  clear hb1
  go_upto_region 2 with fail
  have HG := Lib.hid (And.intro (Blk.new' w1 29 #[.string sn, .int .i64 fr, .int .i64 tl, .int .i64 mo, .int .i64 dk, .int .i64 dw, .int .i64 dd, .int .i64 hs, .int .i64 hb, .int .i64 sv, .string sl] rfl) (HB.out.alloc HB.out.size (.cells #[.string sn, .int .i64 fr, .int .i64 tl, .int .i64 mo, .int .i64 dk, .int .i64 dw, .int .i64 dd, .int .i64 hs, .int .i64 hb, .int .i64 sv, .string sl] 29)))
  generalize w1.alloc (.cells #[.string sn, .int .i64 fr, .int .i64 tl, .int .i64 mo, .int .i64 dk, .int .i64 dw, .int .i64 dd, .int .i64 hs, .int .i64 hb, .int .i64 sv, .string sl] 29) = w2 at *
  have hg : w.heap.size ≤ w1.heap.size := HB.out.size
  clear HB
  generalize w1.heap.size = g at *
  have u0 : w2.cell? ⟨g, 7, none⟩ = some (.int .i64 hs) := HG.out.1.cell_ rfl
  have y0 := HG.out.1.frozen 7
  have hl := HG.out.1.lt
  go_upto_region 23 with fail
  have HX := Lib.hid (show Blk (w2.setCell ⟨g, 7, none⟩ (.int .i64 (604800 + (n : Int)))) g 29 #[.string sn, .int .i64 fr, .int .i64 tl, .int .i64 mo, .int .i64 dk, .int .i64 dw, .int .i64 dd, .int .i64 (604800 + (n : Int)), .int .i64 hb, .int .i64 sv, .string sl] ∧ Below w.heap.size w (w2.setCell ⟨g, 7, none⟩ (.int .i64 (604800 + (n : Int)))) from ⟨(HG.out.1.set_ 7 _), HG.out.2.setCell (by show w.heap.size ≤ g; exact hg) _⟩)
  clear HG u0 y0 hl
  generalize (w2.setCell ⟨g, 7, none⟩ (.int .i64 (604800 + (n : Int)))) = w3 at *
  go_wp2_with (first | (refine wpList_load_row rfl 29 (.tmp 7) rfl g rfl 29 #[.string sn, .int .i64 fr, .int .i64 tl, .int .i64 mo, .int .i64 dk, .int .i64 dw, .int .i64 dd, .int .i64 (604800 + (n : Int)), .int .i64 hb, .int .i64 sv, .string sl] (0, 0) _ HX.out.1 Tryz.underlying29 rfl infoRule ?_) | fail)
  refine (HP.out _ HX.out.2).mono ?_
  rintro e w4 ⟨rfl, hb2⟩
  have HB2 := Lib.hid (show Below w.heap.size w w4 from HX.out.2.trans (hb2.mono HX.out.2.size))
  clear hb2 HX
  go_wp2_with fail
  refine (HW.out _ HB2.out).mono ?_
  rintro e w3 ⟨rfl, hb3⟩
  go_wp2_with fail
  go_ret
  exact ⟨rfl, HB2.out.trans (hb3.mono HB2.out.size)⟩

set_option maxRecDepth 100000 in
set_option maxHeartbeats 1000000 in
theorem rref_8 (D : Array Value) (x n q : Nat) (sn sl : ByteArray) (fr tl mo dk dw dd hs hb sv : Int) (w : World) (hD : (Tryz.prog.info? 41).map (·.size) = some D.size) (hq : (x : Int) % 10 = (q : Int)) (hqk : q = 8) (hx : x < 256) (hn : n < 65536) (hln : sn.data.toList.length ≤ 1048576 ∧ sl.data.toList.length ≤ 1048576)
    (HM : Hid (∀ W, Calls Tryz.prog 15 #[.agg D] W fun e w' => e = .returned (.agg #[.string sn, .int .i64 fr, .int .i64 tl, .int .i64 mo, .int .i64 dk, .int .i64 dw, .int .i64 dd, .int .i64 hs, .int .i64 hb, .int .i64 sv, .string sl]) ∧ Below W.heap.size W w')) (HT : Hid (∀ W, Below w.heap.size w W → RTabs W)) :
    Calls Tryz.prog 9 #[.agg D, .int .u8 (x : Int), .int .u16 (n : Int)] w fun e w' => e = .returned (.bool true) ∧ Below w.heap.size w w' := by
  have e0 : ((q : Int) == 0) = false := by rw [beq_eq_false_iff_ne]; omega
  have e1 : ((q : Int) == 1) = false := by rw [beq_eq_false_iff_ne]; omega
  have e2 : ((q : Int) == 2) = false := by rw [beq_eq_false_iff_ne]; omega
  have e3 : ((q : Int) == 3) = false := by rw [beq_eq_false_iff_ne]; omega
  have e4 : ((q : Int) == 4) = false := by rw [beq_eq_false_iff_ne]; omega
  have e5 : ((q : Int) == 5) = false := by rw [beq_eq_false_iff_ne]; omega
  have e6 : ((q : Int) == 6) = false := by rw [beq_eq_false_iff_ne]; omega
  have e7 : ((q : Int) == 7) = false := by rw [beq_eq_false_iff_ne]; omega
  have e8 : ((q : Int) == 8) = true := by rw [beq_iff_eq]; omega
  have HP := Lib.hid (show ∀ W, Below w.heap.size w W → Calls Tryz.prog 13 #[.agg #[.string sn, .int .i64 fr, .int .i64 tl, .int .i64 mo, .int .i64 dk, .int .i64 dw, .int .i64 dd, .int .i64 hs, .int .i64 hb, .int .i64 (-604800 - (n : Int)), .string sl]] W fun e w' => e = .returned (.tuple #[.string ⟨#[]⟩, .int .i64 2]) ∧ Below W.heap.size W w' from fun W hW =>
    print_wrong ⟨sn.data.toList, fr, tl, mo, (dk, dw, dd), (hs, hb), (-604800 - (n : Int)), sl.data.toList⟩ (fun h => by have := h.save; simp only at this; omega) (by simp only; omega) W (HT.out W hW))
  have HW := Lib.hid (fun W hW => rworks_any W (HT.out W hW))
  clear hqk hln
  go_enter Tryz.func9, Tryz.ntmps9
  go_wp2_with (first | (refine wpList_load_row rfl 41 (.tmp 3) rfl w.heap.size rfl 41 D (0, 0) _ (Blk.new _ _ _) Tryz.underlying41 rfl hD ?_) | fail)
  refine (HM.out _).mono ?_
  rintro e w1 ⟨rfl, hb1⟩
  have HB := Lib.hid (show Below w.heap.size w w1 from ((Below.refl _ _).alloc (Nat.le_refl _) _).trans (hb1.mono (by simp)))
  clear hb1
  go_upto_region 2 with fail
  have HG := Lib.hid (And.intro (Blk.new' w1 29 #[.string sn, .int .i64 fr, .int .i64 tl, .int .i64 mo, .int .i64 dk, .int .i64 dw, .int .i64 dd, .int .i64 hs, .int .i64 hb, .int .i64 sv, .string sl] rfl) (HB.out.alloc HB.out.size (.cells #[.string sn, .int .i64 fr, .int .i64 tl, .int .i64 mo, .int .i64 dk, .int .i64 dw, .int .i64 dd, .int .i64 hs, .int .i64 hb, .int .i64 sv, .string sl] 29)))
  generalize w1.alloc (.cells #[.string sn, .int .i64 fr, .int .i64 tl, .int .i64 mo, .int .i64 dk, .int .i64 dw, .int .i64 dd, .int .i64 hs, .int .i64 hb, .int .i64 sv, .string sl] 29) = w2 at *
  have hg : w.heap.size ≤ w1.heap.size := HB.out.size
  clear HB
  generalize w1.heap.size = g at *
  have u0 : w2.cell? ⟨g, 9, none⟩ = some (.int .i64 sv) := HG.out.1.cell_ rfl
  have y0 := HG.out.1.frozen 9
  have hl := HG.out.1.lt
  go_upto_region 23 with fail
  have HX := Lib.hid (show Blk (w2.setCell ⟨g, 9, none⟩ (.int .i64 (-604800 - (n : Int)))) g 29 #[.string sn, .int .i64 fr, .int .i64 tl, .int .i64 mo, .int .i64 dk, .int .i64 dw, .int .i64 dd, .int .i64 hs, .int .i64 hb, .int .i64 (-604800 - (n : Int)), .string sl] ∧ Below w.heap.size w (w2.setCell ⟨g, 9, none⟩ (.int .i64 (-604800 - (n : Int)))) from ⟨(HG.out.1.set_ 9 _), HG.out.2.setCell (by show w.heap.size ≤ g; exact hg) _⟩)
  clear HG u0 y0 hl
  generalize (w2.setCell ⟨g, 9, none⟩ (.int .i64 (-604800 - (n : Int)))) = w3 at *
  go_wp2_with (first | (refine wpList_load_row rfl 29 (.tmp 7) rfl g rfl 29 #[.string sn, .int .i64 fr, .int .i64 tl, .int .i64 mo, .int .i64 dk, .int .i64 dw, .int .i64 dd, .int .i64 hs, .int .i64 hb, .int .i64 (-604800 - (n : Int)), .string sl] (0, 0) _ HX.out.1 Tryz.underlying29 rfl infoRule ?_) | fail)
  refine (HP.out _ HX.out.2).mono ?_
  rintro e w4 ⟨rfl, hb2⟩
  have HB2 := Lib.hid (show Below w.heap.size w w4 from HX.out.2.trans (hb2.mono HX.out.2.size))
  clear hb2 HX
  go_wp2_with fail
  refine (HW.out _ HB2.out).mono ?_
  rintro e w3 ⟨rfl, hb3⟩
  go_wp2_with fail
  go_ret
  exact ⟨rfl, HB2.out.trans (hb3.mono HB2.out.size)⟩

set_option maxRecDepth 100000 in
set_option maxHeartbeats 1000000 in
theorem rref_9 (D : Array Value) (x n q : Nat) (sn sl : ByteArray) (fr tl mo dk dw dd hs hb sv : Int) (w : World) (hD : (Tryz.prog.info? 41).map (·.size) = some D.size) (hq : (x : Int) % 10 = (q : Int)) (hqk : q = 9) (hx : x < 256) (hn : n < 65536) (hln : sn.data.toList.length ≤ 1048576 ∧ sl.data.toList.length ≤ 1048576)
    (HM : Hid (∀ W, Calls Tryz.prog 15 #[.agg D] W fun e w' => e = .returned (.agg #[.string sn, .int .i64 fr, .int .i64 tl, .int .i64 mo, .int .i64 dk, .int .i64 dw, .int .i64 dd, .int .i64 hs, .int .i64 hb, .int .i64 sv, .string sl]) ∧ Below W.heap.size W w')) (HT : Hid (∀ W, Below w.heap.size w W → RTabs W)) :
    Calls Tryz.prog 9 #[.agg D, .int .u8 (x : Int), .int .u16 (n : Int)] w fun e w' => e = .returned (.bool true) ∧ Below w.heap.size w w' := by
  obtain ⟨i, hi⟩ : ∃ i, n % 4 = i := ⟨_, rfl⟩
  have hi4 : i < 4 := by omega
  have hiA : (0 : Int) ≤ (i : Int) := by omega
  have hiB : (i : Int) < 4 := by omega
  have hiI : (n : Int) % 4 = (i : Int) := by omega
  obtain ⟨sx, hsx⟩ : ∃ sx : ByteArray, (#[⟨#[45]⟩, ⟨#[65, 66, 67, 68, 69]⟩, ⟨#[97, 32, 98]⟩, ⟨#[49]⟩] : Array ByteArray)[i]? = some sx := ⟨_, Array.getElem?_eq_getElem (by simpa using hi4)⟩
  have hsl : sx.data.toList = ([[45], [65, 66, 67, 68, 69], [97, 32, 98], [49]] : List (List UInt8)).getD i [] := by rcases (by omega : i = 0 ∨ i = 1 ∨ i = 2 ∨ i = 3) with rfl | rfl | rfl | rfl <;> cases hsx <;> rfl
  have hc : ∀ W : World, (W.alloc (.cells #[.string ⟨#[45]⟩, .string ⟨#[65, 66, 67, 68, 69]⟩, .string ⟨#[97, 32, 98]⟩, .string ⟨#[49]⟩] 9)).cell? ⟨W.heap.size, i, none⟩ = some (.string sx) := fun W => cells_of4 W _ _ _ _ i sx hsx
  have hlen : sx.data.toList.length ≤ 10 := by rw [hsl]; rcases (by omega : i = 0 ∨ i = 1 ∨ i = 2 ∨ i = 3) with rfl | rfl | rfl | rfl <;> decide
  have e0 : ((q : Int) == 0) = false := by rw [beq_eq_false_iff_ne]; omega
  have e1 : ((q : Int) == 1) = false := by rw [beq_eq_false_iff_ne]; omega
  have e2 : ((q : Int) == 2) = false := by rw [beq_eq_false_iff_ne]; omega
  have e3 : ((q : Int) == 3) = false := by rw [beq_eq_false_iff_ne]; omega
  have e4 : ((q : Int) == 4) = false := by rw [beq_eq_false_iff_ne]; omega
  have e5 : ((q : Int) == 5) = false := by rw [beq_eq_false_iff_ne]; omega
  have e6 : ((q : Int) == 6) = false := by rw [beq_eq_false_iff_ne]; omega
  have e7 : ((q : Int) == 7) = false := by rw [beq_eq_false_iff_ne]; omega
  have e8 : ((q : Int) == 8) = false := by rw [beq_eq_false_iff_ne]; omega
  have HP := Lib.hid (show ∀ W, Below w.heap.size w W → Calls Tryz.prog 13 #[.agg #[.string sn, .int .i64 fr, .int .i64 tl, .int .i64 mo, .int .i64 dk, .int .i64 dw, .int .i64 dd, .int .i64 hs, .int .i64 hb, .int .i64 sv, .string sx]] W fun e w' => e = .returned (.tuple #[.string ⟨#[]⟩, .int .i64 2]) ∧ Below W.heap.size W w' from fun W hW =>
    print_wrong ⟨sn.data.toList, fr, tl, mo, (dk, dw, dd), (hs, hb), sv, sx.data.toList⟩ (fun h => by have h1 := h.lett; have h2 := rbad_lett ⟨i, hi4⟩; simp only [hsl] at h1; exact h1.elim h2.1 (fun h1 => by rw [h1] at h2; cases h2.2)) (by simp only; omega) W (HT.out W hW))
  have HW := Lib.hid (fun W hW => rworks_any W (HT.out W hW))
  clear hsl hi hsx hlen
  clear hqk hln
  go_enter Tryz.func9, Tryz.ntmps9
  go_wp2_with (first | (refine wpList_load_row rfl 41 (.tmp 3) rfl w.heap.size rfl 41 D (0, 0) _ (Blk.new _ _ _) Tryz.underlying41 rfl hD ?_) | fail)
  refine (HM.out _).mono ?_
  rintro e w1 ⟨rfl, hb1⟩
  have HB := Lib.hid (show Below w.heap.size w w1 from ((Below.refl _ _).alloc (Nat.le_refl _) _).trans (hb1.mono (by simp)))
  clear hb1
  go_upto_region 2 with fail
  have HG := Lib.hid (And.intro (Blk.new' w1 29 #[.string sn, .int .i64 fr, .int .i64 tl, .int .i64 mo, .int .i64 dk, .int .i64 dw, .int .i64 dd, .int .i64 hs, .int .i64 hb, .int .i64 sv, .string sl] rfl) (HB.out.alloc HB.out.size (.cells #[.string sn, .int .i64 fr, .int .i64 tl, .int .i64 mo, .int .i64 dk, .int .i64 dw, .int .i64 dd, .int .i64 hs, .int .i64 hb, .int .i64 sv, .string sl] 29)))
  generalize w1.alloc (.cells #[.string sn, .int .i64 fr, .int .i64 tl, .int .i64 mo, .int .i64 dk, .int .i64 dw, .int .i64 dd, .int .i64 hs, .int .i64 hb, .int .i64 sv, .string sl] 29) = w2 at *
  have hg : w.heap.size ≤ w1.heap.size := HB.out.size
  clear HB
  generalize w1.heap.size = g at *
  have u0 : w2.cell? ⟨g, 10, none⟩ = some (.string sl) := HG.out.1.cell_ rfl
  have y0 := HG.out.1.frozen 10
  have hl := HG.out.1.lt
  go_upto_region 23 with fail
  have HX := Lib.hid (show Blk ((w2.setCell ⟨g, 10, none⟩ (.string sx)).alloc (.cells #[.string ⟨#[45]⟩, .string ⟨#[65, 66, 67, 68, 69]⟩, .string ⟨#[97, 32, 98]⟩, .string ⟨#[49]⟩] 9)) g 29 #[.string sn, .int .i64 fr, .int .i64 tl, .int .i64 mo, .int .i64 dk, .int .i64 dw, .int .i64 dd, .int .i64 hs, .int .i64 hb, .int .i64 sv, .string sx] ∧ Below w.heap.size w ((w2.setCell ⟨g, 10, none⟩ (.string sx)).alloc (.cells #[.string ⟨#[45]⟩, .string ⟨#[65, 66, 67, 68, 69]⟩, .string ⟨#[97, 32, 98]⟩, .string ⟨#[49]⟩] 9)) from ⟨(HG.out.1.set_ 10 _).alloc _, rbelow_alloc (HG.out.2.setCell (by show w.heap.size ≤ g; exact hg) _) _⟩)
  clear HG u0 y0 hl
  generalize ((w2.setCell ⟨g, 10, none⟩ (.string sx)).alloc (.cells #[.string ⟨#[45]⟩, .string ⟨#[65, 66, 67, 68, 69]⟩, .string ⟨#[97, 32, 98]⟩, .string ⟨#[49]⟩] 9)) = w3 at *
  go_wp2_with (first | (refine wpList_load_row rfl 29 (.tmp 7) rfl g rfl 29 #[.string sn, .int .i64 fr, .int .i64 tl, .int .i64 mo, .int .i64 dk, .int .i64 dw, .int .i64 dd, .int .i64 hs, .int .i64 hb, .int .i64 sv, .string sx] (0, 0) _ HX.out.1 Tryz.underlying29 rfl infoRule ?_) | fail)
  refine (HP.out _ HX.out.2).mono ?_
  rintro e w4 ⟨rfl, hb2⟩
  have HB2 := Lib.hid (show Below w.heap.size w w4 from HX.out.2.trans (hb2.mono HX.out.2.size))
  clear hb2 HX
  go_wp2_with fail
  refine (HW.out _ HB2.out).mono ?_
  rintro e w3 ⟨rfl, hb3⟩
  go_wp2_with fail
  go_ret
  exact ⟨rfl, HB2.out.trans (hb3.mono HB2.out.size)⟩

theorem rrefuses_any (d : DraftP) (h : d.Ok) (x n : Nat) (hx : x < 256) (hn : n < 65536) (w : World) (hT : RTabs w) :
    Calls Tryz.prog 9 #[.agg d.cells, .int .u8 (x : Int), .int .u16 (n : Int)] w fun e w' => e = .returned (.bool true) ∧ Below w.heap.size w w' := by
  have HM := fun W => d.made_any h W
  have hr := d.right
  have HT : ∀ W, Below w.heap.size w W → RTabs W := fun W hW => hT.below hW
  generalize d.made = r at *
  obtain ⟨nm, fr, tl, mo, ⟨dk, dw, dd⟩, ⟨hs, hb⟩, sv, lt⟩ := r
  obtain ⟨sn, rfl⟩ : ∃ sn : ByteArray, nm = sn.data.toList := ⟨⟨nm.toArray⟩, by simp⟩
  obtain ⟨sl, rfl⟩ : ∃ sl : ByteArray, lt = sl.data.toList := ⟨⟨lt.toArray⟩, by simp⟩
  have hl := rule_lens hr
  have hD : (Tryz.prog.info? 41).map (·.size) = some d.cells.size := infoDraft
  rcases (by omega : x % 10 = 0 ∨ x % 10 = 1 ∨ x % 10 = 2 ∨ x % 10 = 3 ∨ x % 10 = 4 ∨ x % 10 = 5 ∨ x % 10 = 6 ∨ x % 10 = 7 ∨ x % 10 = 8 ∨ x % 10 = 9) with e | e | e | e | e | e | e | e | e | e
  · exact rref_0 d.cells x n (x % 10) sn sl fr tl mo dk dw dd hs hb sv w hD (by omega) e hx hn hl (Lib.hid HM) (Lib.hid HT)
  · exact rref_1 d.cells x n (x % 10) sn sl fr tl mo dk dw dd hs hb sv w hD (by omega) e hx hn hl (Lib.hid HM) (Lib.hid HT)
  · exact rref_2 d.cells x n (x % 10) sn sl fr tl mo dk dw dd hs hb sv w hD (by omega) e hx hn hl (Lib.hid HM) (Lib.hid HT)
  · exact rref_3 d.cells x n (x % 10) sn sl fr tl mo dk dw dd hs hb sv w hD (by omega) e hx hn hl (Lib.hid HM) (Lib.hid HT)
  · exact rref_4 d.cells x n (x % 10) sn sl fr tl mo dk dw dd hs hb sv w hD (by omega) e hx hn hl (Lib.hid HM) (Lib.hid HT)
  · exact rref_5 d.cells x n (x % 10) sn sl fr tl mo dk dw dd hs hb sv w hD (by omega) e hx hn hl (Lib.hid HM) (Lib.hid HT)
  · exact rref_6 d.cells x n (x % 10) sn sl fr tl mo dk dw dd hs hb sv w hD (by omega) e hx hn hl (Lib.hid HM) (Lib.hid HT)
  · exact rref_7 d.cells x n (x % 10) sn sl fr tl mo dk dw dd hs hb sv w hD (by omega) e hx hn hl (Lib.hid HM) (Lib.hid HT)
  · exact rref_8 d.cells x n (x % 10) sn sl fr tl mo dk dw dd hs hb sv w hD (by omega) e hx hn hl (Lib.hid HM) (Lib.hid HT)
  · exact rref_9 d.cells x n (x % 10) sn sl fr tl mo dk dw dd hs hb sv w hD (by omega) e hx hn hl (Lib.hid HM) (Lib.hid HT)
end Go.Proofs.YtgfnnmdngckmmaaGreatDoor
