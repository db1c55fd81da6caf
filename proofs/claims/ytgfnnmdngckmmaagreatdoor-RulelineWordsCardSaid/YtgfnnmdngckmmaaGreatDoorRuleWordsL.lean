/-
  The law RulelineWords: what the call returns.
-/
import Derived.Test.YtgfnnmdngckmmaaGreatDoorTurned
import Derived.Test.YtgfnnmdngckmmaaGreatDoorRuleFirst
set_option linter.unusedVariables false
namespace Go.Proofs.YtgfnnmdngckmmaaGreatDoor
open Go.RowKit

/-- nine strings in the midst of a block -/
def WRow (W : World) (g : Nat) (fs : List (List UInt8)) : Prop := g < W.heap.size ∧ ∀ j, j < 9 → W.cell? ⟨g, 1 + j, none⟩ = some (.string ⟨(fs.getD j []).toArray⟩) ∧ W.frozen? ⟨g, 1 + j, none⟩ = false
theorem WRow.below {W W' : World} {g : Nat} {fs : List (List UInt8)} (h : WRow W g fs) (hb : Below W.heap.size W W') : WRow W' g fs :=
  ⟨Nat.lt_of_lt_of_le h.1 hb.size, fun j hj => ⟨(hb.cell (p := ⟨g, 1 + j, none⟩) h.1).trans (h.2 j hj).1, (hb.frozen (p := ⟨g, 1 + j, none⟩) h.1).trans (h.2 j hj).2⟩⟩
theorem WRow.alloc {W : World} {g : Nat} {fs : List (List UInt8)} (h : WRow W g fs) (o : Obj) : WRow (W.alloc o) g fs := h.below ((Below.refl _ _).alloc (Nat.le_refl _) _)
theorem WRow.set_ {W : World} {g : Nat} {fs : List (List UInt8)} (h : WRow W g fs) (k : Nat) (hk : k < 9) (l : List UInt8) (hl : fs.length = 9 := by rfl) : WRow (W.setCell ⟨g, 1 + k, none⟩ (.string ⟨l.toArray⟩)) g (fs.set k l) := by
  refine ⟨by simpa using h.1, fun j hj => ?_⟩
  obtain ⟨h1, h2⟩ := h.2 j hj
  rw [World.frozen?_setCell]
  refine ⟨?_, h2⟩
  by_cases hik : k = j
  · subst hik
    rw [World.cell?_setCell_same' _ _ _ (by rw [h1]; rfl)]
    rw [show (fs.set k l).getD k [] = l by simp [List.getD, List.getElem?_set_self (show k < fs.length by omega)]]
  · rw [World.cell?_setCell_other _ _ _ _ (by simp <;> omega), h1]
    simp [List.getD, List.getElem?_set_ne hik]
theorem WRow.strRow {W : World} {g : Nat} {fs : List (List UInt8)} (h : WRow W g fs) (hl : fs.length = 9 := by rfl) : StrRow W g 1 fs :=
  ⟨h.1, fun j l hj => by
    have hj9 : j < 9 := by rw [← hl]; exact (List.getElem?_eq_some_iff.1 hj).1
    have := (h.2 j hj9).1
    rw [List.getD_eq_getElem?_getD, hj] at this
    exact this⟩
def TabIs3 (cs : Array Value) (u : Value) (W : World) : Prop := ∃ g : Nat, u = .slice (some ⟨g, 0, none⟩) 3 3 ∧ Blk W g 9 cs
def PtrIs3 (i : Nat) (cs : Array Value) (u : Value) (W : World) : Prop := ∃ g : Nat, u = .pointer (some ⟨g, i, none⟩) ∧ Blk W g 9 cs
theorem TabIs3.lasts (cs : Array Value) : Lasts (TabIs3 cs) := fun u w w' hb ⟨g, h1, h2⟩ => ⟨g, h1, h2.below hb h2.lt⟩
theorem PtrIs3.lasts (i : Nat) (cs : Array Value) : Lasts (PtrIs3 i cs) := fun u w w' hb ⟨g, h1, h2⟩ => ⟨g, h1, h2.below hb h2.lt⟩
def W2Held (w : World) (g gR : Nat) (fs : List (List UInt8)) (C : Array Value) (W : World) : Prop := WRow W g fs ∧ Blk W gR 29 C ∧ Below w.heap.size w W

set_option maxRecDepth 100000 in
set_option maxHeartbeats 2000000 in
theorem rw_00 (D : Array Value) (sn sl : ByteArray) (fr dk dw dd hs sv : Int) (T T6 : ByteArray) (f0 f1 f2 f3 f4 f5 f7 f8 : List UInt8) (bt x : Nat) (i : Nat) (sM : ByteArray) (w : World) (hi12 : i < 12) (hbt : bt < 65536) (hx : x < 256) (hD : (Tryz.prog.info? 41).map (·.size) = some D.size)
    (HM : Hid (∀ W, Calls Tryz.prog 15 #[.agg D] W fun e w' => e = .returned (.agg #[.string sn, .int .i64 fr, .int .i64 fr, .int .i64 ((i : Int) + 1), .int .i64 dk, .int .i64 dw, .int .i64 dd, .int .i64 hs, .int .i64 0, .int .i64 sv, .string sl]) ∧ Below W.heap.size W w'))
    (HP : Hid (∀ W, Below w.heap.size w W → Calls Tryz.prog 13 #[.agg #[.string sn, .int .i64 fr, .int .i64 fr, .int .i64 ((i : Int) + 1), .int .i64 dk, .int .i64 dw, .int .i64 dd, .int .i64 hs, .int .i64 0, .int .i64 sv, .string sl]] W fun e w' => e = .returned (.tuple #[.string T, .int .i64 0]) ∧ Below W.heap.size W w'))
    (HWo : Hid (∀ W, Below w.heap.size w W → Calls Tryz.prog 16 #[.string T] W fun e w' => (∃ g cap, e = .returned (.slice (some ⟨g, 0, none⟩) 10 cap) ∧ 10 ≤ cap ∧ W.heap.size ≤ g ∧ Hid (WRow w' g [f0, f1, f2, f3, f4, f5, T6.data.toList, f7, f8])) ∧ Below W.heap.size W w'))
    (hcM : ∀ W : World, (W.alloc (.cells #[.string ⟨#[74, 97, 110, 117, 97, 114, 121]⟩, .string ⟨#[70, 101, 98, 114, 117, 97, 114, 121]⟩, .string ⟨#[77, 97, 114, 99, 104]⟩, .string ⟨#[65, 112, 114, 105, 108]⟩, .string ⟨#[77, 97, 121]⟩, .string ⟨#[74, 117, 110, 101]⟩, .string ⟨#[74, 117, 108, 121]⟩, .string ⟨#[65, 117, 103, 117, 115, 116]⟩, .string ⟨#[83, 101, 112, 116, 101, 109, 98, 101, 114]⟩, .string ⟨#[79, 99, 116, 111, 98, 101, 114]⟩, .string ⟨#[78, 111, 118, 101, 109, 98, 101, 114]⟩, .string ⟨#[68, 101, 99, 101, 109, 98, 101, 114]⟩] 9)).cell? ⟨W.heap.size, i, none⟩ = some (.string sM))
    (HTm : Hid (∀ W, Calls Tryz.prog 17 #[.string sM, .int .u16 (bt : Int)] W fun e w' => (∃ l : List UInt8, e = .returned (.string ⟨l.toArray⟩) ∧ Hid (wordR monthL 1 l = ((i : Int) + 1, 0) ∧ l.length ≤ 30)) ∧ Below W.heap.size W w'))
    (HW : Hid (∀ W, Below w.heap.size w W → Calls Tryz.prog 10 #[] W fun e w' => e = .returned (.bool true) ∧ Below W.heap.size W w')) (hwh : ((x : Int) % 2 == 0) = true) (hT6b : T6.size ≤ 30)
    (HPa : Hid (∀ W g cap (lm : List UInt8), Below w.heap.size w W → wordR monthL 1 lm = ((i : Int) + 1, 0) → lm.length ≤ 30 → StrRow W g 1 [f0, f1, f1, f3, lm, f5, (T6 ++ ⟨#[119]⟩).data.toList, f7, f8] → Calls Tryz.prog 11 #[.slice (some ⟨g, 1, none⟩) 9 cap] W fun e w' => e = .returned (.tuple #[.agg #[.string sn, .int .i64 fr, .int .i64 fr, .int .i64 ((i : Int) + 1), .int .i64 dk, .int .i64 dw, .int .i64 dd, .int .i64 hs, .int .i64 0, .int .i64 sv, .string sl], .int .i64 0]) ∧ Below W.heap.size W w')) :
    Calls Tryz.prog 7 #[.agg D, .int .u16 (bt : Int), .int .u8 (x : Int)] w fun e w' => e = .returned (.bool true) ∧ Below w.heap.size w w' := by
  have hi0 : (0 : Int) ≤ (i : Int) := by omega
  have hi1 : (i : Int) < 12 := by omega
  go_enter Tryz.func7, Tryz.ntmps7
  go_wp2_with (first | (refine wpList_load_row rfl 41 (.tmp 3) rfl w.heap.size rfl 41 D (0, 0) _ (Blk.new _ _ _) Tryz.underlying41 rfl hD ?_) | fail)
  refine (HM.out _).mono ?_
  rintro e w1 ⟨rfl, hb1⟩
  have HB := Lib.hid (show Below w.heap.size w w1 from ((Below.refl _ _).alloc (Nat.le_refl _) _).trans (hb1.mono (by simp)))
  clear hb1
  go_upto_region 2 with fail
  have HG := Lib.hid (And.intro (Blk.new' w1 29 #[.string sn, .int .i64 fr, .int .i64 fr, .int .i64 ((i : Int) + 1), .int .i64 dk, .int .i64 dw, .int .i64 dd, .int .i64 hs, .int .i64 0, .int .i64 sv, .string sl] rfl) (HB.out.alloc HB.out.size (.cells #[.string sn, .int .i64 fr, .int .i64 fr, .int .i64 ((i : Int) + 1), .int .i64 dk, .int .i64 dw, .int .i64 dd, .int .i64 hs, .int .i64 0, .int .i64 sv, .string sl] 29)))
  generalize w1.alloc (.cells #[.string sn, .int .i64 fr, .int .i64 fr, .int .i64 ((i : Int) + 1), .int .i64 dk, .int .i64 dw, .int .i64 dd, .int .i64 hs, .int .i64 0, .int .i64 sv, .string sl] 29) = w2 at *
  have hgR : w.heap.size ≤ w1.heap.size := HB.out.size
  clear HB HM hD
  generalize w1.heap.size = gR at *
  go_wp2_with (first | (refine wpList_load_row rfl 29 (.tmp 7) rfl gR rfl 29 #[.string sn, .int .i64 fr, .int .i64 fr, .int .i64 ((i : Int) + 1), .int .i64 dk, .int .i64 dw, .int .i64 dd, .int .i64 hs, .int .i64 0, .int .i64 sv, .string sl] (0, 0) _ HG.out.1 Tryz.underlying29 rfl infoRule ?_) | fail)
  refine (HP.out _ HG.out.2).mono ?_
  rintro e w3 ⟨rfl, hb3⟩
  have HG3 := Lib.hid (show Blk w3 gR 29 #[.string sn, .int .i64 fr, .int .i64 fr, .int .i64 ((i : Int) + 1), .int .i64 dk, .int .i64 dw, .int .i64 dd, .int .i64 hs, .int .i64 0, .int .i64 sv, .string sl] ∧ Below w.heap.size w w3 from ⟨HG.out.1.below hb3 HG.out.1.lt, HG.out.2.trans (hb3.mono HG.out.2.size)⟩)
  clear HG hb3 HP
  go_wp2_with fail
  refine (HWo.out _ HG3.out.2).mono ?_
  rintro e w4 ⟨⟨g, cap, rfl, hcap, hgg, HC⟩, hb4⟩
  have HG4 := Lib.hid (show Blk w4 gR 29 #[.string sn, .int .i64 fr, .int .i64 fr, .int .i64 ((i : Int) + 1), .int .i64 dk, .int .i64 dw, .int .i64 dd, .int .i64 hs, .int .i64 0, .int .i64 sv, .string sl] ∧ Below w.heap.size w w4 from ⟨HG3.out.1.below hb4 HG3.out.1.lt, HG3.out.2.trans (hb4.mono HG3.out.2.size)⟩)
  have hgne : gR ≠ g := by have := HG3.out.1.lt; omega
  have hg : w.heap.size ≤ g := Nat.le_trans HG3.out.2.size hgg
  clear HG3 hb4 HWo hgg
  have hcap1 : ¬ cap = 1 := by omega
  have hcap2 : (10 : Int) ≤ (cap : Int) := by omega
  have m3 : w4.cell? ⟨gR, 3, none⟩ = some (.int .i64 ((i : Int) + 1)) := HG4.out.1.cell_ rfl
  have hlR := HG4.out.1.lt
  go_wp2_with fail
  refine (HTm.out _).mono ?_
  rintro e w5 ⟨⟨lm, rfl, HLm⟩, hb5⟩
  have HC5 := Lib.hid (show WRow w5 g [f0, f1, f2, f3, f4, f5, T6.data.toList, f7, f8] from (HC.out.alloc _).below hb5)
  have HG5 := Lib.hid (show Blk w5 gR 29 #[.string sn, .int .i64 fr, .int .i64 fr, .int .i64 ((i : Int) + 1), .int .i64 dk, .int .i64 dw, .int .i64 dd, .int .i64 hs, .int .i64 0, .int .i64 sv, .string sl] ∧ Below w.heap.size w w5 from ⟨(HG4.out.1.alloc _).below hb5 (HG4.out.1.alloc _).lt, (rbelow_alloc HG4.out.2 _).trans (hb5.mono (rbelow_alloc HG4.out.2 _).size)⟩)
  clear HC HG4 hb5 HTm m3 hlR hcM
  have c5 : w5.cell? ⟨g, 5, none⟩ = some (.string ⟨f4.toArray⟩) := (HC5.out.2 4 (by decide)).1
  have y5 : w5.frozen? ⟨g, 5, none⟩ = false := (HC5.out.2 4 (by decide)).2
  go_upto_region 8 with fail
  have HC6 := Lib.hid (show WRow (w5.setCell ⟨g, 5, none⟩ (.string ⟨lm.toArray⟩)) g [f0, f1, f2, f3, lm, f5, T6.data.toList, f7, f8] from HC5.out.set_ 4 (by decide) lm)
  have HG6 := Lib.hid (show Blk (w5.setCell ⟨g, 5, none⟩ (.string ⟨lm.toArray⟩)) gR 29 #[.string sn, .int .i64 fr, .int .i64 fr, .int .i64 ((i : Int) + 1), .int .i64 dk, .int .i64 dw, .int .i64 dd, .int .i64 hs, .int .i64 0, .int .i64 sv, .string sl] ∧ Below w.heap.size w (w5.setCell ⟨g, 5, none⟩ (.string ⟨lm.toArray⟩)) from ⟨HG5.out.1.far hgne _, HG5.out.2.setCell hg _⟩)
  generalize w5.setCell ⟨g, 5, none⟩ (.string ⟨lm.toArray⟩) = w6 at *
  clear HC5 HG5 c5 y5
  have r1 : w6.cell? ⟨gR, 1, none⟩ = some (.int .i64 fr) := HG6.out.1.cell_ rfl
  have r2 : w6.cell? ⟨gR, 2, none⟩ = some (.int .i64 fr) := HG6.out.1.cell_ rfl
  have hlR := HG6.out.1.lt
  have c2 : w6.cell? ⟨g, 2, none⟩ = some (.string ⟨f1.toArray⟩) := (HC6.out.2 1 (by decide)).1
  have c3 : w6.cell? ⟨g, 3, none⟩ = some (.string ⟨f2.toArray⟩) := (HC6.out.2 2 (by decide)).1
  have y3 : w6.frozen? ⟨g, 3, none⟩ = false := (HC6.out.2 2 (by decide)).2
  go_upto_region 14 with fail
  have HC7 := Lib.hid (show WRow (w6.setCell ⟨g, 3, none⟩ (.string ⟨f1.toArray⟩)) g [f0, f1, f1, f3, lm, f5, T6.data.toList, f7, f8] from HC6.out.set_ 2 (by decide) f1)
  have HG7 := Lib.hid (show Blk (w6.setCell ⟨g, 3, none⟩ (.string ⟨f1.toArray⟩)) gR 29 #[.string sn, .int .i64 fr, .int .i64 fr, .int .i64 ((i : Int) + 1), .int .i64 dk, .int .i64 dw, .int .i64 dd, .int .i64 hs, .int .i64 0, .int .i64 sv, .string sl] ∧ Below w.heap.size w (w6.setCell ⟨g, 3, none⟩ (.string ⟨f1.toArray⟩)) from ⟨HG6.out.1.far hgne _, HG6.out.2.setCell hg _⟩)
  generalize w6.setCell ⟨g, 3, none⟩ (.string ⟨f1.toArray⟩) = w7 at *
  clear HC6 HG6 c2 c3 y3 r1 r2 hlR
  have r8 : w7.cell? ⟨gR, 8, none⟩ = some (.int .i64 0) := HG7.out.1.cell_ rfl
  have c7 : w7.cell? ⟨g, 7, none⟩ = some (.string T6) := (HC7.out.2 6 (by decide)).1
  have y7 : w7.frozen? ⟨g, 7, none⟩ = false := (HC7.out.2 6 (by decide)).2
  have hgne2 : g ≠ gR := fun h => hgne h.symm
  go_upto_region 18 with fail
  have HC8 := Lib.hid (show WRow (w7.setCell ⟨g, 7, none⟩ (.string (T6 ++ ⟨#[119]⟩))) g [f0, f1, f1, f3, lm, f5, (T6 ++ ⟨#[119]⟩).data.toList, f7, f8] from HC7.out.set_ 6 (by decide) (T6 ++ ⟨#[119]⟩).data.toList)
  have HG8 := Lib.hid (show Blk (w7.setCell ⟨g, 7, none⟩ (.string (T6 ++ ⟨#[119]⟩))) gR 29 #[.string sn, .int .i64 fr, .int .i64 fr, .int .i64 ((i : Int) + 1), .int .i64 dk, .int .i64 dw, .int .i64 dd, .int .i64 hs, .int .i64 0, .int .i64 sv, .string sl] ∧ Below w.heap.size w (w7.setCell ⟨g, 7, none⟩ (.string (T6 ++ ⟨#[119]⟩))) from ⟨HG7.out.1.far hgne _, HG7.out.2.setCell hg _⟩)
  generalize w7.setCell ⟨g, 7, none⟩ (.string (T6 ++ ⟨#[119]⟩)) = w8 at *
  clear HC7 HG7 r8 c7 y7 hgne2
  go_wp2_with fail
  refine (HPa.out _ g _ lm HG8.out.2 HLm.out.1 HLm.out.2 HC8.out.strRow).mono ?_
  rintro e w9 ⟨rfl, hb9⟩
  have HG9 := Lib.hid (show Blk w9 gR 29 #[.string sn, .int .i64 fr, .int .i64 fr, .int .i64 ((i : Int) + 1), .int .i64 dk, .int .i64 dw, .int .i64 dd, .int .i64 hs, .int .i64 0, .int .i64 sv, .string sl] ∧ Below w.heap.size w w9 from ⟨HG8.out.1.below hb9 HG8.out.1.lt, HG8.out.2.trans (hb9.mono HG8.out.2.size)⟩)
  clear HG8 HC8 hb9 HPa HLm
  have u0 : w9.cell? ⟨gR, 0, none⟩ = some (.string sn) := HG9.out.1.cell_ rfl
  have u1 : w9.cell? ⟨gR, 1, none⟩ = some (.int .i64 fr) := HG9.out.1.cell_ rfl
  have u2 : w9.cell? ⟨gR, 2, none⟩ = some (.int .i64 fr) := HG9.out.1.cell_ rfl
  have u3 : w9.cell? ⟨gR, 3, none⟩ = some (.int .i64 ((i : Int) + 1)) := HG9.out.1.cell_ rfl
  have u4 : w9.cell? ⟨gR, 4, none⟩ = some (.int .i64 dk) := HG9.out.1.cell_ rfl
  have u5 : w9.cell? ⟨gR, 5, none⟩ = some (.int .i64 dw) := HG9.out.1.cell_ rfl
  have u6 : w9.cell? ⟨gR, 6, none⟩ = some (.int .i64 dd) := HG9.out.1.cell_ rfl
  have u7 : w9.cell? ⟨gR, 7, none⟩ = some (.int .i64 hs) := HG9.out.1.cell_ rfl
  have u8 : w9.cell? ⟨gR, 8, none⟩ = some (.int .i64 0) := HG9.out.1.cell_ rfl
  have u9 : w9.cell? ⟨gR, 9, none⟩ = some (.int .i64 sv) := HG9.out.1.cell_ rfl
  have u10 : w9.cell? ⟨gR, 10, none⟩ = some (.string sl) := HG9.out.1.cell_ rfl
  have hlR9 := HG9.out.1.lt
  go_wp2_with fail
  refine (HW.out _ (rbelow_alloc HG9.out.2 _)).mono ?_
  rintro e w10 ⟨rfl, hb10⟩
  have HZ := Lib.hid (show Below w.heap.size w w10 from (rbelow_alloc HG9.out.2 _).trans (hb10.mono (rbelow_alloc HG9.out.2 _).size))
  clear hb10 HG9
  go_wp2_with fail
  go_ret
  exact ⟨rfl, HZ.out⟩

set_option maxRecDepth 100000 in
set_option maxHeartbeats 2000000 in
theorem rw_01 (D : Array Value) (sn sl : ByteArray) (fr dk dw dd hs sv : Int) (T T6 : ByteArray) (f0 f1 f2 f3 f4 f5 f7 f8 : List UInt8) (bt x : Nat) (i : Nat) (sM : ByteArray) (w : World) (hi12 : i < 12) (hbt : bt < 65536) (hx : x < 256) (hD : (Tryz.prog.info? 41).map (·.size) = some D.size)
    (HM : Hid (∀ W, Calls Tryz.prog 15 #[.agg D] W fun e w' => e = .returned (.agg #[.string sn, .int .i64 fr, .int .i64 fr, .int .i64 ((i : Int) + 1), .int .i64 dk, .int .i64 dw, .int .i64 dd, .int .i64 hs, .int .i64 1, .int .i64 sv, .string sl]) ∧ Below W.heap.size W w'))
    (HP : Hid (∀ W, Below w.heap.size w W → Calls Tryz.prog 13 #[.agg #[.string sn, .int .i64 fr, .int .i64 fr, .int .i64 ((i : Int) + 1), .int .i64 dk, .int .i64 dw, .int .i64 dd, .int .i64 hs, .int .i64 1, .int .i64 sv, .string sl]] W fun e w' => e = .returned (.tuple #[.string T, .int .i64 0]) ∧ Below W.heap.size W w'))
    (HWo : Hid (∀ W, Below w.heap.size w W → Calls Tryz.prog 16 #[.string T] W fun e w' => (∃ g cap, e = .returned (.slice (some ⟨g, 0, none⟩) 10 cap) ∧ 10 ≤ cap ∧ W.heap.size ≤ g ∧ Hid (WRow w' g [f0, f1, f2, f3, f4, f5, T6.data.toList, f7, f8])) ∧ Below W.heap.size W w'))
    (hcM : ∀ W : World, (W.alloc (.cells #[.string ⟨#[74, 97, 110, 117, 97, 114, 121]⟩, .string ⟨#[70, 101, 98, 114, 117, 97, 114, 121]⟩, .string ⟨#[77, 97, 114, 99, 104]⟩, .string ⟨#[65, 112, 114, 105, 108]⟩, .string ⟨#[77, 97, 121]⟩, .string ⟨#[74, 117, 110, 101]⟩, .string ⟨#[74, 117, 108, 121]⟩, .string ⟨#[65, 117, 103, 117, 115, 116]⟩, .string ⟨#[83, 101, 112, 116, 101, 109, 98, 101, 114]⟩, .string ⟨#[79, 99, 116, 111, 98, 101, 114]⟩, .string ⟨#[78, 111, 118, 101, 109, 98, 101, 114]⟩, .string ⟨#[68, 101, 99, 101, 109, 98, 101, 114]⟩] 9)).cell? ⟨W.heap.size, i, none⟩ = some (.string sM))
    (HTm : Hid (∀ W, Calls Tryz.prog 17 #[.string sM, .int .u16 (bt : Int)] W fun e w' => (∃ l : List UInt8, e = .returned (.string ⟨l.toArray⟩) ∧ Hid (wordR monthL 1 l = ((i : Int) + 1, 0) ∧ l.length ≤ 30)) ∧ Below W.heap.size W w'))
    (HW : Hid (∀ W, Below w.heap.size w W → Calls Tryz.prog 10 #[] W fun e w' => e = .returned (.bool true) ∧ Below W.heap.size W w')) (hwh : ((x : Int) % 2 == 0) = true)
    (HPa : Hid (∀ W g cap (lm : List UInt8), Below w.heap.size w W → wordR monthL 1 lm = ((i : Int) + 1, 0) → lm.length ≤ 30 → StrRow W g 1 [f0, f1, f1, f3, lm, f5, T6.data.toList, f7, f8] → Calls Tryz.prog 11 #[.slice (some ⟨g, 1, none⟩) 9 cap] W fun e w' => e = .returned (.tuple #[.agg #[.string sn, .int .i64 fr, .int .i64 fr, .int .i64 ((i : Int) + 1), .int .i64 dk, .int .i64 dw, .int .i64 dd, .int .i64 hs, .int .i64 1, .int .i64 sv, .string sl], .int .i64 0]) ∧ Below W.heap.size W w')) :
    Calls Tryz.prog 7 #[.agg D, .int .u16 (bt : Int), .int .u8 (x : Int)] w fun e w' => e = .returned (.bool true) ∧ Below w.heap.size w w' := by
  have hi0 : (0 : Int) ≤ (i : Int) := by omega
  have hi1 : (i : Int) < 12 := by omega
  go_enter Tryz.func7, Tryz.ntmps7
  go_wp2_with (first | (refine wpList_load_row rfl 41 (.tmp 3) rfl w.heap.size rfl 41 D (0, 0) _ (Blk.new _ _ _) Tryz.underlying41 rfl hD ?_) | fail)
  refine (HM.out _).mono ?_
  rintro e w1 ⟨rfl, hb1⟩
  have HB := Lib.hid (show Below w.heap.size w w1 from ((Below.refl _ _).alloc (Nat.le_refl _) _).trans (hb1.mono (by simp)))
  clear hb1
  go_upto_region 2 with fail
  have HG := Lib.hid (And.intro (Blk.new' w1 29 #[.string sn, .int .i64 fr, .int .i64 fr, .int .i64 ((i : Int) + 1), .int .i64 dk, .int .i64 dw, .int .i64 dd, .int .i64 hs, .int .i64 1, .int .i64 sv, .string sl] rfl) (HB.out.alloc HB.out.size (.cells #[.string sn, .int .i64 fr, .int .i64 fr, .int .i64 ((i : Int) + 1), .int .i64 dk, .int .i64 dw, .int .i64 dd, .int .i64 hs, .int .i64 1, .int .i64 sv, .string sl] 29)))
  generalize w1.alloc (.cells #[.string sn, .int .i64 fr, .int .i64 fr, .int .i64 ((i : Int) + 1), .int .i64 dk, .int .i64 dw, .int .i64 dd, .int .i64 hs, .int .i64 1, .int .i64 sv, .string sl] 29) = w2 at *
  have hgR : w.heap.size ≤ w1.heap.size := HB.out.size
  clear HB HM hD
  generalize w1.heap.size = gR at *
  go_wp2_with (first | (refine wpList_load_row rfl 29 (.tmp 7) rfl gR rfl 29 #[.string sn, .int .i64 fr, .int .i64 fr, .int .i64 ((i : Int) + 1), .int .i64 dk, .int .i64 dw, .int .i64 dd, .int .i64 hs, .int .i64 1, .int .i64 sv, .string sl] (0, 0) _ HG.out.1 Tryz.underlying29 rfl infoRule ?_) | fail)
  refine (HP.out _ HG.out.2).mono ?_
  rintro e w3 ⟨rfl, hb3⟩
  have HG3 := Lib.hid (show Blk w3 gR 29 #[.string sn, .int .i64 fr, .int .i64 fr, .int .i64 ((i : Int) + 1), .int .i64 dk, .int .i64 dw, .int .i64 dd, .int .i64 hs, .int .i64 1, .int .i64 sv, .string sl] ∧ Below w.heap.size w w3 from ⟨HG.out.1.below hb3 HG.out.1.lt, HG.out.2.trans (hb3.mono HG.out.2.size)⟩)
  clear HG hb3 HP
  go_wp2_with fail
  refine (HWo.out _ HG3.out.2).mono ?_
  rintro e w4 ⟨⟨g, cap, rfl, hcap, hgg, HC⟩, hb4⟩
  have HG4 := Lib.hid (show Blk w4 gR 29 #[.string sn, .int .i64 fr, .int .i64 fr, .int .i64 ((i : Int) + 1), .int .i64 dk, .int .i64 dw, .int .i64 dd, .int .i64 hs, .int .i64 1, .int .i64 sv, .string sl] ∧ Below w.heap.size w w4 from ⟨HG3.out.1.below hb4 HG3.out.1.lt, HG3.out.2.trans (hb4.mono HG3.out.2.size)⟩)
  have hgne : gR ≠ g := by have := HG3.out.1.lt; omega
  have hg : w.heap.size ≤ g := Nat.le_trans HG3.out.2.size hgg
  clear HG3 hb4 HWo hgg
  have hcap1 : ¬ cap = 1 := by omega
  have hcap2 : (10 : Int) ≤ (cap : Int) := by omega
  have m3 : w4.cell? ⟨gR, 3, none⟩ = some (.int .i64 ((i : Int) + 1)) := HG4.out.1.cell_ rfl
  have hlR := HG4.out.1.lt
  go_wp2_with fail
  refine (HTm.out _).mono ?_
  rintro e w5 ⟨⟨lm, rfl, HLm⟩, hb5⟩
  have HC5 := Lib.hid (show WRow w5 g [f0, f1, f2, f3, f4, f5, T6.data.toList, f7, f8] from (HC.out.alloc _).below hb5)
  have HG5 := Lib.hid (show Blk w5 gR 29 #[.string sn, .int .i64 fr, .int .i64 fr, .int .i64 ((i : Int) + 1), .int .i64 dk, .int .i64 dw, .int .i64 dd, .int .i64 hs, .int .i64 1, .int .i64 sv, .string sl] ∧ Below w.heap.size w w5 from ⟨(HG4.out.1.alloc _).below hb5 (HG4.out.1.alloc _).lt, (rbelow_alloc HG4.out.2 _).trans (hb5.mono (rbelow_alloc HG4.out.2 _).size)⟩)
  clear HC HG4 hb5 HTm m3 hlR hcM
  have c5 : w5.cell? ⟨g, 5, none⟩ = some (.string ⟨f4.toArray⟩) := (HC5.out.2 4 (by decide)).1
  have y5 : w5.frozen? ⟨g, 5, none⟩ = false := (HC5.out.2 4 (by decide)).2
  go_upto_region 8 with fail
  have HC6 := Lib.hid (show WRow (w5.setCell ⟨g, 5, none⟩ (.string ⟨lm.toArray⟩)) g [f0, f1, f2, f3, lm, f5, T6.data.toList, f7, f8] from HC5.out.set_ 4 (by decide) lm)
  have HG6 := Lib.hid (show Blk (w5.setCell ⟨g, 5, none⟩ (.string ⟨lm.toArray⟩)) gR 29 #[.string sn, .int .i64 fr, .int .i64 fr, .int .i64 ((i : Int) + 1), .int .i64 dk, .int .i64 dw, .int .i64 dd, .int .i64 hs, .int .i64 1, .int .i64 sv, .string sl] ∧ Below w.heap.size w (w5.setCell ⟨g, 5, none⟩ (.string ⟨lm.toArray⟩)) from ⟨HG5.out.1.far hgne _, HG5.out.2.setCell hg _⟩)
  generalize w5.setCell ⟨g, 5, none⟩ (.string ⟨lm.toArray⟩) = w6 at *
  clear HC5 HG5 c5 y5
  have r1 : w6.cell? ⟨gR, 1, none⟩ = some (.int .i64 fr) := HG6.out.1.cell_ rfl
  have r2 : w6.cell? ⟨gR, 2, none⟩ = some (.int .i64 fr) := HG6.out.1.cell_ rfl
  have hlR := HG6.out.1.lt
  have c2 : w6.cell? ⟨g, 2, none⟩ = some (.string ⟨f1.toArray⟩) := (HC6.out.2 1 (by decide)).1
  have c3 : w6.cell? ⟨g, 3, none⟩ = some (.string ⟨f2.toArray⟩) := (HC6.out.2 2 (by decide)).1
  have y3 : w6.frozen? ⟨g, 3, none⟩ = false := (HC6.out.2 2 (by decide)).2
  go_upto_region 14 with fail
  have HC7 := Lib.hid (show WRow (w6.setCell ⟨g, 3, none⟩ (.string ⟨f1.toArray⟩)) g [f0, f1, f1, f3, lm, f5, T6.data.toList, f7, f8] from HC6.out.set_ 2 (by decide) f1)
  have HG7 := Lib.hid (show Blk (w6.setCell ⟨g, 3, none⟩ (.string ⟨f1.toArray⟩)) gR 29 #[.string sn, .int .i64 fr, .int .i64 fr, .int .i64 ((i : Int) + 1), .int .i64 dk, .int .i64 dw, .int .i64 dd, .int .i64 hs, .int .i64 1, .int .i64 sv, .string sl] ∧ Below w.heap.size w (w6.setCell ⟨g, 3, none⟩ (.string ⟨f1.toArray⟩)) from ⟨HG6.out.1.far hgne _, HG6.out.2.setCell hg _⟩)
  generalize w6.setCell ⟨g, 3, none⟩ (.string ⟨f1.toArray⟩) = w7 at *
  clear HC6 HG6 c2 c3 y3 r1 r2 hlR
  have r8 : w7.cell? ⟨gR, 8, none⟩ = some (.int .i64 1) := HG7.out.1.cell_ rfl
  have c7 : w7.cell? ⟨g, 7, none⟩ = some (.string T6) := (HC7.out.2 6 (by decide)).1
  have y7 : w7.frozen? ⟨g, 7, none⟩ = false := (HC7.out.2 6 (by decide)).2
  go_upto_region 18 with fail
  have HC8 := HC7
  have HG8 := HG7
  clear HC7 HG7 r8 c7 y7
  obtain ⟨w8, rfl⟩ : ∃ w8, w8 = w7 := ⟨_, rfl⟩
  go_wp2_with fail
  refine (HPa.out _ g _ lm HG8.out.2 HLm.out.1 HLm.out.2 HC8.out.strRow).mono ?_
  rintro e w9 ⟨rfl, hb9⟩
  have HG9 := Lib.hid (show Blk w9 gR 29 #[.string sn, .int .i64 fr, .int .i64 fr, .int .i64 ((i : Int) + 1), .int .i64 dk, .int .i64 dw, .int .i64 dd, .int .i64 hs, .int .i64 1, .int .i64 sv, .string sl] ∧ Below w.heap.size w w9 from ⟨HG8.out.1.below hb9 HG8.out.1.lt, HG8.out.2.trans (hb9.mono HG8.out.2.size)⟩)
  clear HG8 HC8 hb9 HPa HLm
  have u0 : w9.cell? ⟨gR, 0, none⟩ = some (.string sn) := HG9.out.1.cell_ rfl
  have u1 : w9.cell? ⟨gR, 1, none⟩ = some (.int .i64 fr) := HG9.out.1.cell_ rfl
  have u2 : w9.cell? ⟨gR, 2, none⟩ = some (.int .i64 fr) := HG9.out.1.cell_ rfl
  have u3 : w9.cell? ⟨gR, 3, none⟩ = some (.int .i64 ((i : Int) + 1)) := HG9.out.1.cell_ rfl
  have u4 : w9.cell? ⟨gR, 4, none⟩ = some (.int .i64 dk) := HG9.out.1.cell_ rfl
  have u5 : w9.cell? ⟨gR, 5, none⟩ = some (.int .i64 dw) := HG9.out.1.cell_ rfl
  have u6 : w9.cell? ⟨gR, 6, none⟩ = some (.int .i64 dd) := HG9.out.1.cell_ rfl
  have u7 : w9.cell? ⟨gR, 7, none⟩ = some (.int .i64 hs) := HG9.out.1.cell_ rfl
  have u8 : w9.cell? ⟨gR, 8, none⟩ = some (.int .i64 1) := HG9.out.1.cell_ rfl
  have u9 : w9.cell? ⟨gR, 9, none⟩ = some (.int .i64 sv) := HG9.out.1.cell_ rfl
  have u10 : w9.cell? ⟨gR, 10, none⟩ = some (.string sl) := HG9.out.1.cell_ rfl
  have hlR9 := HG9.out.1.lt
  go_wp2_with fail
  refine (HW.out _ (rbelow_alloc HG9.out.2 _)).mono ?_
  rintro e w10 ⟨rfl, hb10⟩
  have HZ := Lib.hid (show Below w.heap.size w w10 from (rbelow_alloc HG9.out.2 _).trans (hb10.mono (rbelow_alloc HG9.out.2 _).size))
  clear hb10 HG9
  go_wp2_with fail
  go_ret
  exact ⟨rfl, HZ.out⟩

set_option maxRecDepth 100000 in
set_option maxHeartbeats 2000000 in
theorem rw_02 (D : Array Value) (sn sl : ByteArray) (fr dk dw dd hs sv : Int) (T T6 : ByteArray) (f0 f1 f2 f3 f4 f5 f7 f8 : List UInt8) (bt x : Nat) (i : Nat) (sM : ByteArray) (w : World) (hi12 : i < 12) (hbt : bt < 65536) (hx : x < 256) (hD : (Tryz.prog.info? 41).map (·.size) = some D.size)
    (HM : Hid (∀ W, Calls Tryz.prog 15 #[.agg D] W fun e w' => e = .returned (.agg #[.string sn, .int .i64 fr, .int .i64 fr, .int .i64 ((i : Int) + 1), .int .i64 dk, .int .i64 dw, .int .i64 dd, .int .i64 hs, .int .i64 2, .int .i64 sv, .string sl]) ∧ Below W.heap.size W w'))
    (HP : Hid (∀ W, Below w.heap.size w W → Calls Tryz.prog 13 #[.agg #[.string sn, .int .i64 fr, .int .i64 fr, .int .i64 ((i : Int) + 1), .int .i64 dk, .int .i64 dw, .int .i64 dd, .int .i64 hs, .int .i64 2, .int .i64 sv, .string sl]] W fun e w' => e = .returned (.tuple #[.string T, .int .i64 0]) ∧ Below W.heap.size W w'))
    (HWo : Hid (∀ W, Below w.heap.size w W → Calls Tryz.prog 16 #[.string T] W fun e w' => (∃ g cap, e = .returned (.slice (some ⟨g, 0, none⟩) 10 cap) ∧ 10 ≤ cap ∧ W.heap.size ≤ g ∧ Hid (WRow w' g [f0, f1, f2, f3, f4, f5, T6.data.toList, f7, f8])) ∧ Below W.heap.size W w'))
    (hcM : ∀ W : World, (W.alloc (.cells #[.string ⟨#[74, 97, 110, 117, 97, 114, 121]⟩, .string ⟨#[70, 101, 98, 114, 117, 97, 114, 121]⟩, .string ⟨#[77, 97, 114, 99, 104]⟩, .string ⟨#[65, 112, 114, 105, 108]⟩, .string ⟨#[77, 97, 121]⟩, .string ⟨#[74, 117, 110, 101]⟩, .string ⟨#[74, 117, 108, 121]⟩, .string ⟨#[65, 117, 103, 117, 115, 116]⟩, .string ⟨#[83, 101, 112, 116, 101, 109, 98, 101, 114]⟩, .string ⟨#[79, 99, 116, 111, 98, 101, 114]⟩, .string ⟨#[78, 111, 118, 101, 109, 98, 101, 114]⟩, .string ⟨#[68, 101, 99, 101, 109, 98, 101, 114]⟩] 9)).cell? ⟨W.heap.size, i, none⟩ = some (.string sM))
    (HTm : Hid (∀ W, Calls Tryz.prog 17 #[.string sM, .int .u16 (bt : Int)] W fun e w' => (∃ l : List UInt8, e = .returned (.string ⟨l.toArray⟩) ∧ Hid (wordR monthL 1 l = ((i : Int) + 1, 0) ∧ l.length ≤ 30)) ∧ Below W.heap.size W w'))
    (HW : Hid (∀ W, Below w.heap.size w W → Calls Tryz.prog 10 #[] W fun e w' => e = .returned (.bool true) ∧ Below W.heap.size W w')) (hwh : ((x : Int) % 2 == 0) = true) (p : Nat) (hp3 : p < 3) (hpI : (x : Int) % 3 = (p : Int)) (sp : ByteArray) (Hcp : Hid (∀ (W : World) (g : Nat), Blk W g 9 #[.string ⟨#[103]⟩, .string ⟨#[122]⟩, .string ⟨#[117]⟩] → W.cell? ⟨g, p, none⟩ = some (.string sp))) (hsp : sp.size ≤ 1) (hT6a : 1 ≤ T6.size) (hT6b : T6.size ≤ 30)
    (HPa : Hid (∀ W g cap (lm : List UInt8), Below w.heap.size w W → wordR monthL 1 lm = ((i : Int) + 1, 0) → lm.length ≤ 30 → StrRow W g 1 [f0, f1, f1, f3, lm, f5, (T6.extract 0 (T6.size - 1) ++ sp).data.toList, f7, f8] → Calls Tryz.prog 11 #[.slice (some ⟨g, 1, none⟩) 9 cap] W fun e w' => e = .returned (.tuple #[.agg #[.string sn, .int .i64 fr, .int .i64 fr, .int .i64 ((i : Int) + 1), .int .i64 dk, .int .i64 dw, .int .i64 dd, .int .i64 hs, .int .i64 2, .int .i64 sv, .string sl], .int .i64 0]) ∧ Below W.heap.size W w')) :
    Calls Tryz.prog 7 #[.agg D, .int .u16 (bt : Int), .int .u8 (x : Int)] w fun e w' => e = .returned (.bool true) ∧ Below w.heap.size w w' := by
  have hi0 : (0 : Int) ≤ (i : Int) := by omega
  have hi1 : (i : Int) < 12 := by omega
  go_enter Tryz.func7, Tryz.ntmps7
  go_wp2_with (first | (refine wpList_load_row rfl 41 (.tmp 3) rfl w.heap.size rfl 41 D (0, 0) _ (Blk.new _ _ _) Tryz.underlying41 rfl hD ?_) | fail)
  refine (HM.out _).mono ?_
  rintro e w1 ⟨rfl, hb1⟩
  have HB := Lib.hid (show Below w.heap.size w w1 from ((Below.refl _ _).alloc (Nat.le_refl _) _).trans (hb1.mono (by simp)))
  clear hb1
  go_upto_region 2 with fail
  have HG := Lib.hid (And.intro (Blk.new' w1 29 #[.string sn, .int .i64 fr, .int .i64 fr, .int .i64 ((i : Int) + 1), .int .i64 dk, .int .i64 dw, .int .i64 dd, .int .i64 hs, .int .i64 2, .int .i64 sv, .string sl] rfl) (HB.out.alloc HB.out.size (.cells #[.string sn, .int .i64 fr, .int .i64 fr, .int .i64 ((i : Int) + 1), .int .i64 dk, .int .i64 dw, .int .i64 dd, .int .i64 hs, .int .i64 2, .int .i64 sv, .string sl] 29)))
  generalize w1.alloc (.cells #[.string sn, .int .i64 fr, .int .i64 fr, .int .i64 ((i : Int) + 1), .int .i64 dk, .int .i64 dw, .int .i64 dd, .int .i64 hs, .int .i64 2, .int .i64 sv, .string sl] 29) = w2 at *
  have hgR : w.heap.size ≤ w1.heap.size := HB.out.size
  clear HB HM hD
  generalize w1.heap.size = gR at *
  go_wp2_with (first | (refine wpList_load_row rfl 29 (.tmp 7) rfl gR rfl 29 #[.string sn, .int .i64 fr, .int .i64 fr, .int .i64 ((i : Int) + 1), .int .i64 dk, .int .i64 dw, .int .i64 dd, .int .i64 hs, .int .i64 2, .int .i64 sv, .string sl] (0, 0) _ HG.out.1 Tryz.underlying29 rfl infoRule ?_) | fail)
  refine (HP.out _ HG.out.2).mono ?_
  rintro e w3 ⟨rfl, hb3⟩
  have HG3 := Lib.hid (show Blk w3 gR 29 #[.string sn, .int .i64 fr, .int .i64 fr, .int .i64 ((i : Int) + 1), .int .i64 dk, .int .i64 dw, .int .i64 dd, .int .i64 hs, .int .i64 2, .int .i64 sv, .string sl] ∧ Below w.heap.size w w3 from ⟨HG.out.1.below hb3 HG.out.1.lt, HG.out.2.trans (hb3.mono HG.out.2.size)⟩)
  clear HG hb3 HP
  go_wp2_with fail
  refine (HWo.out _ HG3.out.2).mono ?_
  rintro e w4 ⟨⟨g, cap, rfl, hcap, hgg, HC⟩, hb4⟩
  have HG4 := Lib.hid (show Blk w4 gR 29 #[.string sn, .int .i64 fr, .int .i64 fr, .int .i64 ((i : Int) + 1), .int .i64 dk, .int .i64 dw, .int .i64 dd, .int .i64 hs, .int .i64 2, .int .i64 sv, .string sl] ∧ Below w.heap.size w w4 from ⟨HG3.out.1.below hb4 HG3.out.1.lt, HG3.out.2.trans (hb4.mono HG3.out.2.size)⟩)
  have hgne : gR ≠ g := by have := HG3.out.1.lt; omega
  have hg : w.heap.size ≤ g := Nat.le_trans HG3.out.2.size hgg
  clear HG3 hb4 HWo hgg
  have hcap1 : ¬ cap = 1 := by omega
  have hcap2 : (10 : Int) ≤ (cap : Int) := by omega
  have m3 : w4.cell? ⟨gR, 3, none⟩ = some (.int .i64 ((i : Int) + 1)) := HG4.out.1.cell_ rfl
  have hlR := HG4.out.1.lt
  go_wp2_with fail
  refine (HTm.out _).mono ?_
  rintro e w5 ⟨⟨lm, rfl, HLm⟩, hb5⟩
  have HC5 := Lib.hid (show WRow w5 g [f0, f1, f2, f3, f4, f5, T6.data.toList, f7, f8] from (HC.out.alloc _).below hb5)
  have HG5 := Lib.hid (show Blk w5 gR 29 #[.string sn, .int .i64 fr, .int .i64 fr, .int .i64 ((i : Int) + 1), .int .i64 dk, .int .i64 dw, .int .i64 dd, .int .i64 hs, .int .i64 2, .int .i64 sv, .string sl] ∧ Below w.heap.size w w5 from ⟨(HG4.out.1.alloc _).below hb5 (HG4.out.1.alloc _).lt, (rbelow_alloc HG4.out.2 _).trans (hb5.mono (rbelow_alloc HG4.out.2 _).size)⟩)
  clear HC HG4 hb5 HTm m3 hlR hcM
  have c5 : w5.cell? ⟨g, 5, none⟩ = some (.string ⟨f4.toArray⟩) := (HC5.out.2 4 (by decide)).1
  have y5 : w5.frozen? ⟨g, 5, none⟩ = false := (HC5.out.2 4 (by decide)).2
  go_upto_region 8 with fail
  have HC6 := Lib.hid (show WRow (w5.setCell ⟨g, 5, none⟩ (.string ⟨lm.toArray⟩)) g [f0, f1, f2, f3, lm, f5, T6.data.toList, f7, f8] from HC5.out.set_ 4 (by decide) lm)
  have HG6 := Lib.hid (show Blk (w5.setCell ⟨g, 5, none⟩ (.string ⟨lm.toArray⟩)) gR 29 #[.string sn, .int .i64 fr, .int .i64 fr, .int .i64 ((i : Int) + 1), .int .i64 dk, .int .i64 dw, .int .i64 dd, .int .i64 hs, .int .i64 2, .int .i64 sv, .string sl] ∧ Below w.heap.size w (w5.setCell ⟨g, 5, none⟩ (.string ⟨lm.toArray⟩)) from ⟨HG5.out.1.far hgne _, HG5.out.2.setCell hg _⟩)
  generalize w5.setCell ⟨g, 5, none⟩ (.string ⟨lm.toArray⟩) = w6 at *
  clear HC5 HG5 c5 y5
  have r1 : w6.cell? ⟨gR, 1, none⟩ = some (.int .i64 fr) := HG6.out.1.cell_ rfl
  have r2 : w6.cell? ⟨gR, 2, none⟩ = some (.int .i64 fr) := HG6.out.1.cell_ rfl
  have hlR := HG6.out.1.lt
  have c2 : w6.cell? ⟨g, 2, none⟩ = some (.string ⟨f1.toArray⟩) := (HC6.out.2 1 (by decide)).1
  have c3 : w6.cell? ⟨g, 3, none⟩ = some (.string ⟨f2.toArray⟩) := (HC6.out.2 2 (by decide)).1
  have y3 : w6.frozen? ⟨g, 3, none⟩ = false := (HC6.out.2 2 (by decide)).2
  go_upto_region 14 with fail
  have HC7 := Lib.hid (show WRow (w6.setCell ⟨g, 3, none⟩ (.string ⟨f1.toArray⟩)) g [f0, f1, f1, f3, lm, f5, T6.data.toList, f7, f8] from HC6.out.set_ 2 (by decide) f1)
  have HG7 := Lib.hid (show Blk (w6.setCell ⟨g, 3, none⟩ (.string ⟨f1.toArray⟩)) gR 29 #[.string sn, .int .i64 fr, .int .i64 fr, .int .i64 ((i : Int) + 1), .int .i64 dk, .int .i64 dw, .int .i64 dd, .int .i64 hs, .int .i64 2, .int .i64 sv, .string sl] ∧ Below w.heap.size w (w6.setCell ⟨g, 3, none⟩ (.string ⟨f1.toArray⟩)) from ⟨HG6.out.1.far hgne _, HG6.out.2.setCell hg _⟩)
  generalize w6.setCell ⟨g, 3, none⟩ (.string ⟨f1.toArray⟩) = w7 at *
  clear HC6 HG6 c2 c3 y3 r1 r2 hlR
  have r8 : w7.cell? ⟨gR, 8, none⟩ = some (.int .i64 2) := HG7.out.1.cell_ rfl
  have c7 : w7.cell? ⟨g, 7, none⟩ = some (.string T6) := (HC7.out.2 6 (by decide)).1
  have y7 : w7.frozen? ⟨g, 7, none⟩ = false := (HC7.out.2 6 (by decide)).2
  have hp0 : (0 : Int) ≤ (p : Int) := by omega
  have hp1 : (p : Int) < 3 := by omega
  have hT6c : decide (0 < T6.size) = true := by simp; omega
  have hT6w : IntKind.i64.wrap ((T6.size : Int) - 1) = (T6.size : Int) - 1 := IntWalk.i64_in _ (by omega)
  have hT6n : ((T6.size : Int) - 1).toNat = T6.size - 1 := by omega
  have hT6p : (0 : Int) ≤ (T6.size : Int) - 1 := by omega
  have hT6r : (1 : Int) ≤ (T6.size : Int) := by omega
  have hT6s : ¬ 9223372036854775807 < T6.size - 1 + sp.size := by omega
  have hT6q : (T6.size : Int) - 1 ≤ (T6.size : Int) := by omega
  have htm : (x : Int).tmod 3 = (p : Int) := by rw [Int.tmod_eq_emod_of_nonneg (by omega)]; exact hpI
  go_upto_region 17 with fail
  refine wp_region_rels 17 [[], [], [], [], [], [], [], [], [], [], [], [], [], [10], [13], [], []] [Form.val, Form.val, Form.val, Form.val, Form.val, Form.val, Form.val, Form.val, Form.val, Form.val, Form.rel (TabIs3 #[.string ⟨#[103]⟩, .string ⟨#[122]⟩, .string ⟨#[117]⟩]), Form.val, Form.val, Form.rel (PtrIs3 p #[.string ⟨#[103]⟩, .string ⟨#[122]⟩, .string ⟨#[117]⟩]), Form.val, Form.val, Form.val] (W2Held w g gR [f0, f1, f1, f3, lm, f5, T6.data.toList, f7, f8] #[.string sn, .int .i64 fr, .int .i64 fr, .int .i64 ((i : Int) + 1), .int .i64 dk, .int .i64 dw, .int .i64 dd, .int .i64 hs, .int .i64 2, .int .i64 sv, .string sl]) (by kernel_rfl) (by kernel_rfl) rfl rfl (⟨HC7.out, HG7.out.1, HG7.out.2.drew⟩) (fun W W' h hb => ⟨h.1.below hb, h.2.1.below hb h.2.1.lt, h.2.2.trans (hb.mono h.2.2.size)⟩) ⟨TabIs3.lasts _, PtrIs3.lasts _ _, trivial⟩ ?_
  repeat (first | apply exSpec_rel | apply exSpec_new | apply exSpec_val)
  apply relWalk_ex rfl ?o0 (fun K hK => ?n0)
  case o0 =>
    intro W hC hF
    have c7 : W.cell? ⟨g, 7, none⟩ = some (.string T6) := (hC.1.2 6 (by decide)).1
    go_simp
    all_goals exact ⟨Below.refl _ _, rfl⟩
  case' n0 =>
    go_simp
    refine hK _ ?_
    clear hK K
  apply relWalk_ex rfl ?o1 (fun K hK => ?n1)
  case o1 =>
    intro W hC hF
    have c7 : W.cell? ⟨g, 7, none⟩ = some (.string T6) := (hC.1.2 6 (by decide)).1
    go_simp
    all_goals exact ⟨Below.refl _ _, rfl⟩
  case' n1 =>
    go_simp
    refine hK _ ?_
    clear hK K
  apply relWalk_ex rfl ?o2 (fun K hK => ?n2)
  case o2 =>
    intro W hC hF
    have c7 : W.cell? ⟨g, 7, none⟩ = some (.string T6) := (hC.1.2 6 (by decide)).1
    go_simp
    all_goals exact ⟨Below.refl _ _, rfl⟩
  case' n2 =>
    go_simp
    refine hK _ ?_
    clear hK K
  apply relWalk_ex rfl ?o3 (fun K hK => ?n3)
  case o3 =>
    intro W hC hF
    have c7 : W.cell? ⟨g, 7, none⟩ = some (.string T6) := (hC.1.2 6 (by decide)).1
    go_simp
    all_goals exact ⟨Below.refl _ _, rfl⟩
  case' n3 =>
    go_simp
    refine hK _ ?_
    clear hK K
  apply relWalk_ex rfl ?o4 (fun K hK => ?n4)
  case o4 =>
    intro W hC hF
    have c7 : W.cell? ⟨g, 7, none⟩ = some (.string T6) := (hC.1.2 6 (by decide)).1
    go_simp
    all_goals exact ⟨Below.refl _ _, rfl⟩
  case' n4 =>
    go_simp
    refine hK _ ?_
    clear hK K
  apply relWalk_ex rfl ?o5 (fun K hK => ?n5)
  case o5 =>
    intro W hC hF
    have c7 : W.cell? ⟨g, 7, none⟩ = some (.string T6) := (hC.1.2 6 (by decide)).1
    go_simp
    all_goals exact ⟨Below.refl _ _, rfl⟩
  case' n5 =>
    go_simp
    refine hK _ ?_
    clear hK K
  apply relWalk_ex rfl ?o6 (fun K hK => ?n6)
  case o6 =>
    intro W hC hF
    have c7 : W.cell? ⟨g, 7, none⟩ = some (.string T6) := (hC.1.2 6 (by decide)).1
    go_simp
    all_goals exact ⟨Below.refl _ _, rfl⟩
  case' n6 =>
    go_simp
    refine hK _ ?_
    clear hK K
  apply relWalk_ex rfl ?o7 (fun K hK => ?n7)
  case o7 =>
    intro W hC hF
    have c7 : W.cell? ⟨g, 7, none⟩ = some (.string T6) := (hC.1.2 6 (by decide)).1
    go_simp
    all_goals exact ⟨Below.refl _ _, rfl⟩
  case' n7 =>
    go_simp
    refine hK _ ?_
    clear hK K
  apply relWalk_ex rfl ?o8 (fun K hK => ?n8)
  case o8 =>
    intro W hC hF
    have c7 : W.cell? ⟨g, 7, none⟩ = some (.string T6) := (hC.1.2 6 (by decide)).1
    go_simp
    all_goals exact ⟨Below.refl _ _, rfl⟩
  case' n8 =>
    go_simp
    refine hK _ ?_
    clear hK K
  apply relWalk_ex rfl ?o9 (fun K hK => ?n9)
  case o9 =>
    intro W hC hF
    have c7 : W.cell? ⟨g, 7, none⟩ = some (.string T6) := (hC.1.2 6 (by decide)).1
    go_simp
    all_goals exact ⟨Below.refl _ _, rfl⟩
  case' n9 =>
    go_simp
    refine hK _ ?_
    clear hK K
  apply relWalk_rel rfl ?o10 (fun u10 K hK => ?n10)
  case o10 =>
    intro W hC hF
    have c7 : W.cell? ⟨g, 7, none⟩ = some (.string T6) := (hC.1.2 6 (by decide)).1
    go_simp
    all_goals exact ⟨by go_grown, _, rfl, Blk.new _ _ _⟩
  case' n10 =>
    go_simp
    refine hK _ ?_
    clear hK K
  apply relWalk_ex rfl ?o11 (fun K hK => ?n11)
  case o11 =>
    intro W hC hF
    have c7 : W.cell? ⟨g, 7, none⟩ = some (.string T6) := (hC.1.2 6 (by decide)).1
    go_simp
    all_goals exact ⟨Below.refl _ _, rfl⟩
  case' n11 =>
    go_simp
    refine hK _ ?_
    clear hK K
  apply relWalk_ex rfl ?o12 (fun K hK => ?n12)
  case o12 =>
    intro W hC hF
    have c7 : W.cell? ⟨g, 7, none⟩ = some (.string T6) := (hC.1.2 6 (by decide)).1
    go_simp
    all_goals exact ⟨Below.refl _ _, rfl⟩
  case' n12 =>
    go_simp
    refine hK _ ?_
    clear hK K
  apply relWalk_rel rfl ?o13 (fun u13 K hK => ?n13)
  case o13 =>
    intro W hC hF
    obtain ⟨⟨gz, rfl, hB⟩, -⟩ := hF
    have c7 : W.cell? ⟨g, 7, none⟩ = some (.string T6) := (hC.1.2 6 (by decide)).1
    go_simp
    all_goals exact ⟨by go_grown, gz, rfl, hB⟩
  case' n13 =>
    go_simp
    refine hK _ ?_
    clear hK K
  apply relWalk_ex rfl ?o14 (fun K hK => ?n14)
  case o14 =>
    intro W hC hF
    obtain ⟨⟨gz, rfl, hB⟩, -⟩ := hF
    have hxp : W.cell? ⟨gz, p, none⟩ = some (.string sp) := Hcp.out W gz hB
    have c7 : W.cell? ⟨g, 7, none⟩ = some (.string T6) := (hC.1.2 6 (by decide)).1
    go_simp
    all_goals exact ⟨Below.refl _ _, rfl⟩
  case' n14 =>
    go_simp
    refine hK _ ?_
    clear hK K
  apply relWalk_ex rfl ?o15 (fun K hK => ?n15)
  case o15 =>
    intro W hC hF
    have c7 : W.cell? ⟨g, 7, none⟩ = some (.string T6) := (hC.1.2 6 (by decide)).1
    go_simp
    all_goals exact ⟨Below.refl _ _, rfl⟩
  case' n15 =>
    go_simp
    refine hK _ ?_
    clear hK K
  apply relWalk_ex rfl ?o16 (fun K hK => ?n16)
  case o16 =>
    intro W hC hF
    have c7 : W.cell? ⟨g, 7, none⟩ = some (.string T6) := (hC.1.2 6 (by decide)).1
    go_simp
    all_goals exact ⟨Below.refl _ _, rfl⟩
  case' n16 =>
    go_simp
    refine hK _ ?_
    clear hK K
  apply relWalk_end
  intro W hC hF hU
  have z7 : W.cell? ⟨g, 7, none⟩ = some (.string T6) := (hC.1.2 6 (by decide)).1
  have y8 : W.frozen? ⟨g, 7, none⟩ = false := (hC.1.2 6 (by decide)).2
  have HC7b := Lib.hid hC
  clear hC hF hU HC7 HG7 r8 c7 y7
  go_upto_region 18 with fail
  have HC8 := Lib.hid (show WRow (W.setCell ⟨g, 7, none⟩ (.string (T6.extract 0 (T6.size - 1) ++ sp))) g [f0, f1, f1, f3, lm, f5, (T6.extract 0 (T6.size - 1) ++ sp).data.toList, f7, f8] from HC7b.out.1.set_ 6 (by decide) (T6.extract 0 (T6.size - 1) ++ sp).data.toList)
  have HG8 := Lib.hid (show Blk (W.setCell ⟨g, 7, none⟩ (.string (T6.extract 0 (T6.size - 1) ++ sp))) gR 29 #[.string sn, .int .i64 fr, .int .i64 fr, .int .i64 ((i : Int) + 1), .int .i64 dk, .int .i64 dw, .int .i64 dd, .int .i64 hs, .int .i64 2, .int .i64 sv, .string sl] ∧ Below w.heap.size w (W.setCell ⟨g, 7, none⟩ (.string (T6.extract 0 (T6.size - 1) ++ sp))) from ⟨HC7b.out.2.1.far hgne _, HC7b.out.2.2.setCell hg _⟩)
  generalize W.setCell ⟨g, 7, none⟩ (.string (T6.extract 0 (T6.size - 1) ++ sp)) = w8 at *
  clear HC7b z7 y8
  go_wp2_with fail
  refine (HPa.out _ g _ lm HG8.out.2 HLm.out.1 HLm.out.2 HC8.out.strRow).mono ?_
  rintro e w9 ⟨rfl, hb9⟩
  have HG9 := Lib.hid (show Blk w9 gR 29 #[.string sn, .int .i64 fr, .int .i64 fr, .int .i64 ((i : Int) + 1), .int .i64 dk, .int .i64 dw, .int .i64 dd, .int .i64 hs, .int .i64 2, .int .i64 sv, .string sl] ∧ Below w.heap.size w w9 from ⟨HG8.out.1.below hb9 HG8.out.1.lt, HG8.out.2.trans (hb9.mono HG8.out.2.size)⟩)
  clear HG8 HC8 hb9 HPa HLm
  have u0 : w9.cell? ⟨gR, 0, none⟩ = some (.string sn) := HG9.out.1.cell_ rfl
  have u1 : w9.cell? ⟨gR, 1, none⟩ = some (.int .i64 fr) := HG9.out.1.cell_ rfl
  have u2 : w9.cell? ⟨gR, 2, none⟩ = some (.int .i64 fr) := HG9.out.1.cell_ rfl
  have u3 : w9.cell? ⟨gR, 3, none⟩ = some (.int .i64 ((i : Int) + 1)) := HG9.out.1.cell_ rfl
  have u4 : w9.cell? ⟨gR, 4, none⟩ = some (.int .i64 dk) := HG9.out.1.cell_ rfl
  have u5 : w9.cell? ⟨gR, 5, none⟩ = some (.int .i64 dw) := HG9.out.1.cell_ rfl
  have u6 : w9.cell? ⟨gR, 6, none⟩ = some (.int .i64 dd) := HG9.out.1.cell_ rfl
  have u7 : w9.cell? ⟨gR, 7, none⟩ = some (.int .i64 hs) := HG9.out.1.cell_ rfl
  have u8 : w9.cell? ⟨gR, 8, none⟩ = some (.int .i64 2) := HG9.out.1.cell_ rfl
  have u9 : w9.cell? ⟨gR, 9, none⟩ = some (.int .i64 sv) := HG9.out.1.cell_ rfl
  have u10 : w9.cell? ⟨gR, 10, none⟩ = some (.string sl) := HG9.out.1.cell_ rfl
  have hlR9 := HG9.out.1.lt
  go_wp2_with fail
  refine (HW.out _ (rbelow_alloc HG9.out.2 _)).mono ?_
  rintro e w10 ⟨rfl, hb10⟩
  have HZ := Lib.hid (show Below w.heap.size w w10 from (rbelow_alloc HG9.out.2 _).trans (hb10.mono (rbelow_alloc HG9.out.2 _).size))
  clear hb10 HG9
  go_wp2_with fail
  go_ret
  exact ⟨rfl, HZ.out⟩

set_option maxRecDepth 100000 in
set_option maxHeartbeats 2000000 in
theorem rw_10 (D : Array Value) (sn sl : ByteArray) (fr dk dw dd hs sv : Int) (T T6 : ByteArray) (f0 f1 f2 f3 f4 f5 f7 f8 : List UInt8) (bt x : Nat) (i : Nat) (sM : ByteArray) (w : World) (hi12 : i < 12) (hbt : bt < 65536) (hx : x < 256) (hD : (Tryz.prog.info? 41).map (·.size) = some D.size)
    (HM : Hid (∀ W, Calls Tryz.prog 15 #[.agg D] W fun e w' => e = .returned (.agg #[.string sn, .int .i64 fr, .int .i64 fr, .int .i64 ((i : Int) + 1), .int .i64 dk, .int .i64 dw, .int .i64 dd, .int .i64 hs, .int .i64 0, .int .i64 sv, .string sl]) ∧ Below W.heap.size W w'))
    (HP : Hid (∀ W, Below w.heap.size w W → Calls Tryz.prog 13 #[.agg #[.string sn, .int .i64 fr, .int .i64 fr, .int .i64 ((i : Int) + 1), .int .i64 dk, .int .i64 dw, .int .i64 dd, .int .i64 hs, .int .i64 0, .int .i64 sv, .string sl]] W fun e w' => e = .returned (.tuple #[.string T, .int .i64 0]) ∧ Below W.heap.size W w'))
    (HWo : Hid (∀ W, Below w.heap.size w W → Calls Tryz.prog 16 #[.string T] W fun e w' => (∃ g cap, e = .returned (.slice (some ⟨g, 0, none⟩) 10 cap) ∧ 10 ≤ cap ∧ W.heap.size ≤ g ∧ Hid (WRow w' g [f0, f1, f2, f3, f4, f5, T6.data.toList, f7, f8])) ∧ Below W.heap.size W w'))
    (hcM : ∀ W : World, (W.alloc (.cells #[.string ⟨#[74, 97, 110, 117, 97, 114, 121]⟩, .string ⟨#[70, 101, 98, 114, 117, 97, 114, 121]⟩, .string ⟨#[77, 97, 114, 99, 104]⟩, .string ⟨#[65, 112, 114, 105, 108]⟩, .string ⟨#[77, 97, 121]⟩, .string ⟨#[74, 117, 110, 101]⟩, .string ⟨#[74, 117, 108, 121]⟩, .string ⟨#[65, 117, 103, 117, 115, 116]⟩, .string ⟨#[83, 101, 112, 116, 101, 109, 98, 101, 114]⟩, .string ⟨#[79, 99, 116, 111, 98, 101, 114]⟩, .string ⟨#[78, 111, 118, 101, 109, 98, 101, 114]⟩, .string ⟨#[68, 101, 99, 101, 109, 98, 101, 114]⟩] 9)).cell? ⟨W.heap.size, i, none⟩ = some (.string sM))
    (HTm : Hid (∀ W, Calls Tryz.prog 17 #[.string sM, .int .u16 (bt : Int)] W fun e w' => (∃ l : List UInt8, e = .returned (.string ⟨l.toArray⟩) ∧ Hid (wordR monthL 1 l = ((i : Int) + 1, 0) ∧ l.length ≤ 30)) ∧ Below W.heap.size W w'))
    (HW : Hid (∀ W, Below w.heap.size w W → Calls Tryz.prog 10 #[] W fun e w' => e = .returned (.bool true) ∧ Below W.heap.size W w')) (hwh : ((x : Int) % 2 == 0) = false) (q : Nat) (hq4 : q < 4) (hqI : (x : Int) / 2 % 4 = (q : Int)) (sq : ByteArray) (hcq : ∀ W : World, (W.alloc (.cells #[.string ⟨#[111]⟩, .string ⟨#[111, 110]⟩, .string ⟨#[111, 110, 108]⟩, .string ⟨#[111, 110, 108, 121]⟩] 9)).cell? ⟨W.heap.size, q, none⟩ = some (.string sq)) (HTq : Hid (∀ W, Calls Tryz.prog 17 #[.string sq, .int .u16 (bt : Int)] W fun e w' => (∃ l : List UInt8, e = .returned (.string ⟨l.toArray⟩) ∧ Hid (untilR l fr = (fr, 0) ∧ l.length ≤ 30)) ∧ Below W.heap.size W w')) (hT6b : T6.size ≤ 30)
    (HPa : Hid (∀ W g cap (lm : List UInt8) (lu : List UInt8), Below w.heap.size w W → wordR monthL 1 lm = ((i : Int) + 1, 0) → lm.length ≤ 30 → untilR lu fr = (fr, 0) → lu.length ≤ 30 → StrRow W g 1 [f0, f1, lu, f3, lm, f5, (T6 ++ ⟨#[119]⟩).data.toList, f7, f8] → Calls Tryz.prog 11 #[.slice (some ⟨g, 1, none⟩) 9 cap] W fun e w' => e = .returned (.tuple #[.agg #[.string sn, .int .i64 fr, .int .i64 fr, .int .i64 ((i : Int) + 1), .int .i64 dk, .int .i64 dw, .int .i64 dd, .int .i64 hs, .int .i64 0, .int .i64 sv, .string sl], .int .i64 0]) ∧ Below W.heap.size W w')) :
    Calls Tryz.prog 7 #[.agg D, .int .u16 (bt : Int), .int .u8 (x : Int)] w fun e w' => e = .returned (.bool true) ∧ Below w.heap.size w w' := by
  have hi0 : (0 : Int) ≤ (i : Int) := by omega
  have hi1 : (i : Int) < 12 := by omega
  go_enter Tryz.func7, Tryz.ntmps7
  go_wp2_with (first | (refine wpList_load_row rfl 41 (.tmp 3) rfl w.heap.size rfl 41 D (0, 0) _ (Blk.new _ _ _) Tryz.underlying41 rfl hD ?_) | fail)
  refine (HM.out _).mono ?_
  rintro e w1 ⟨rfl, hb1⟩
  have HB := Lib.hid (show Below w.heap.size w w1 from ((Below.refl _ _).alloc (Nat.le_refl _) _).trans (hb1.mono (by simp)))
  clear hb1
  go_upto_region 2 with fail
  have HG := Lib.hid (And.intro (Blk.new' w1 29 #[.string sn, .int .i64 fr, .int .i64 fr, .int .i64 ((i : Int) + 1), .int .i64 dk, .int .i64 dw, .int .i64 dd, .int .i64 hs, .int .i64 0, .int .i64 sv, .string sl] rfl) (HB.out.alloc HB.out.size (.cells #[.string sn, .int .i64 fr, .int .i64 fr, .int .i64 ((i : Int) + 1), .int .i64 dk, .int .i64 dw, .int .i64 dd, .int .i64 hs, .int .i64 0, .int .i64 sv, .string sl] 29)))
  generalize w1.alloc (.cells #[.string sn, .int .i64 fr, .int .i64 fr, .int .i64 ((i : Int) + 1), .int .i64 dk, .int .i64 dw, .int .i64 dd, .int .i64 hs, .int .i64 0, .int .i64 sv, .string sl] 29) = w2 at *
  have hgR : w.heap.size ≤ w1.heap.size := HB.out.size
  clear HB HM hD
  generalize w1.heap.size = gR at *
  go_wp2_with (first | (refine wpList_load_row rfl 29 (.tmp 7) rfl gR rfl 29 #[.string sn, .int .i64 fr, .int .i64 fr, .int .i64 ((i : Int) + 1), .int .i64 dk, .int .i64 dw, .int .i64 dd, .int .i64 hs, .int .i64 0, .int .i64 sv, .string sl] (0, 0) _ HG.out.1 Tryz.underlying29 rfl infoRule ?_) | fail)
  refine (HP.out _ HG.out.2).mono ?_
  rintro e w3 ⟨rfl, hb3⟩
  have HG3 := Lib.hid (show Blk w3 gR 29 #[.string sn, .int .i64 fr, .int .i64 fr, .int .i64 ((i : Int) + 1), .int .i64 dk, .int .i64 dw, .int .i64 dd, .int .i64 hs, .int .i64 0, .int .i64 sv, .string sl] ∧ Below w.heap.size w w3 from ⟨HG.out.1.below hb3 HG.out.1.lt, HG.out.2.trans (hb3.mono HG.out.2.size)⟩)
  clear HG hb3 HP
  go_wp2_with fail
  refine (HWo.out _ HG3.out.2).mono ?_
  rintro e w4 ⟨⟨g, cap, rfl, hcap, hgg, HC⟩, hb4⟩
  have HG4 := Lib.hid (show Blk w4 gR 29 #[.string sn, .int .i64 fr, .int .i64 fr, .int .i64 ((i : Int) + 1), .int .i64 dk, .int .i64 dw, .int .i64 dd, .int .i64 hs, .int .i64 0, .int .i64 sv, .string sl] ∧ Below w.heap.size w w4 from ⟨HG3.out.1.below hb4 HG3.out.1.lt, HG3.out.2.trans (hb4.mono HG3.out.2.size)⟩)
  have hgne : gR ≠ g := by have := HG3.out.1.lt; omega
  have hg : w.heap.size ≤ g := Nat.le_trans HG3.out.2.size hgg
  clear HG3 hb4 HWo hgg
  have hcap1 : ¬ cap = 1 := by omega
  have hcap2 : (10 : Int) ≤ (cap : Int) := by omega
  have m3 : w4.cell? ⟨gR, 3, none⟩ = some (.int .i64 ((i : Int) + 1)) := HG4.out.1.cell_ rfl
  have hlR := HG4.out.1.lt
  go_wp2_with fail
  refine (HTm.out _).mono ?_
  rintro e w5 ⟨⟨lm, rfl, HLm⟩, hb5⟩
  have HC5 := Lib.hid (show WRow w5 g [f0, f1, f2, f3, f4, f5, T6.data.toList, f7, f8] from (HC.out.alloc _).below hb5)
  have HG5 := Lib.hid (show Blk w5 gR 29 #[.string sn, .int .i64 fr, .int .i64 fr, .int .i64 ((i : Int) + 1), .int .i64 dk, .int .i64 dw, .int .i64 dd, .int .i64 hs, .int .i64 0, .int .i64 sv, .string sl] ∧ Below w.heap.size w w5 from ⟨(HG4.out.1.alloc _).below hb5 (HG4.out.1.alloc _).lt, (rbelow_alloc HG4.out.2 _).trans (hb5.mono (rbelow_alloc HG4.out.2 _).size)⟩)
  clear HC HG4 hb5 HTm m3 hlR hcM
  have c5 : w5.cell? ⟨g, 5, none⟩ = some (.string ⟨f4.toArray⟩) := (HC5.out.2 4 (by decide)).1
  have y5 : w5.frozen? ⟨g, 5, none⟩ = false := (HC5.out.2 4 (by decide)).2
  go_upto_region 8 with fail
  have HC6 := Lib.hid (show WRow (w5.setCell ⟨g, 5, none⟩ (.string ⟨lm.toArray⟩)) g [f0, f1, f2, f3, lm, f5, T6.data.toList, f7, f8] from HC5.out.set_ 4 (by decide) lm)
  have HG6 := Lib.hid (show Blk (w5.setCell ⟨g, 5, none⟩ (.string ⟨lm.toArray⟩)) gR 29 #[.string sn, .int .i64 fr, .int .i64 fr, .int .i64 ((i : Int) + 1), .int .i64 dk, .int .i64 dw, .int .i64 dd, .int .i64 hs, .int .i64 0, .int .i64 sv, .string sl] ∧ Below w.heap.size w (w5.setCell ⟨g, 5, none⟩ (.string ⟨lm.toArray⟩)) from ⟨HG5.out.1.far hgne _, HG5.out.2.setCell hg _⟩)
  generalize w5.setCell ⟨g, 5, none⟩ (.string ⟨lm.toArray⟩) = w6 at *
  clear HC5 HG5 c5 y5
  have r1 : w6.cell? ⟨gR, 1, none⟩ = some (.int .i64 fr) := HG6.out.1.cell_ rfl
  have r2 : w6.cell? ⟨gR, 2, none⟩ = some (.int .i64 fr) := HG6.out.1.cell_ rfl
  have hlR := HG6.out.1.lt
  have hq0 : (0 : Int) ≤ (q : Int) := by omega
  have hq1 : (q : Int) < 4 := by omega
  go_wp2_with fail
  refine (HTq.out _).mono ?_
  rintro e wq ⟨⟨lu, rfl, HLu⟩, hbq⟩
  have HCq := Lib.hid (show WRow wq g [f0, f1, f2, f3, lm, f5, T6.data.toList, f7, f8] from (HC6.out.alloc _).below hbq)
  have HGq := Lib.hid (show Blk wq gR 29 #[.string sn, .int .i64 fr, .int .i64 fr, .int .i64 ((i : Int) + 1), .int .i64 dk, .int .i64 dw, .int .i64 dd, .int .i64 hs, .int .i64 0, .int .i64 sv, .string sl] ∧ Below w.heap.size w wq from ⟨(HG6.out.1.alloc _).below hbq (HG6.out.1.alloc _).lt, (rbelow_alloc HG6.out.2 _).trans (hbq.mono (rbelow_alloc HG6.out.2 _).size)⟩)
  clear HC6 HG6 hbq HTq r1 r2 hlR hcq hq0 hq1
  have c3 : wq.cell? ⟨g, 3, none⟩ = some (.string ⟨f2.toArray⟩) := (HCq.out.2 2 (by decide)).1
  have y3 : wq.frozen? ⟨g, 3, none⟩ = false := (HCq.out.2 2 (by decide)).2
  go_upto_region 14 with fail
  have HC7 := Lib.hid (show WRow (wq.setCell ⟨g, 3, none⟩ (.string ⟨lu.toArray⟩)) g [f0, f1, lu, f3, lm, f5, T6.data.toList, f7, f8] from HCq.out.set_ 2 (by decide) lu)
  have HG7 := Lib.hid (show Blk (wq.setCell ⟨g, 3, none⟩ (.string ⟨lu.toArray⟩)) gR 29 #[.string sn, .int .i64 fr, .int .i64 fr, .int .i64 ((i : Int) + 1), .int .i64 dk, .int .i64 dw, .int .i64 dd, .int .i64 hs, .int .i64 0, .int .i64 sv, .string sl] ∧ Below w.heap.size w (wq.setCell ⟨g, 3, none⟩ (.string ⟨lu.toArray⟩)) from ⟨HGq.out.1.far hgne _, HGq.out.2.setCell hg _⟩)
  generalize wq.setCell ⟨g, 3, none⟩ (.string ⟨lu.toArray⟩) = w7 at *
  clear HCq HGq c3 y3
  have r8 : w7.cell? ⟨gR, 8, none⟩ = some (.int .i64 0) := HG7.out.1.cell_ rfl
  have c7 : w7.cell? ⟨g, 7, none⟩ = some (.string T6) := (HC7.out.2 6 (by decide)).1
  have y7 : w7.frozen? ⟨g, 7, none⟩ = false := (HC7.out.2 6 (by decide)).2
  have hgne2 : g ≠ gR := fun h => hgne h.symm
  go_upto_region 18 with fail
  have HC8 := Lib.hid (show WRow (w7.setCell ⟨g, 7, none⟩ (.string (T6 ++ ⟨#[119]⟩))) g [f0, f1, lu, f3, lm, f5, (T6 ++ ⟨#[119]⟩).data.toList, f7, f8] from HC7.out.set_ 6 (by decide) (T6 ++ ⟨#[119]⟩).data.toList)
  have HG8 := Lib.hid (show Blk (w7.setCell ⟨g, 7, none⟩ (.string (T6 ++ ⟨#[119]⟩))) gR 29 #[.string sn, .int .i64 fr, .int .i64 fr, .int .i64 ((i : Int) + 1), .int .i64 dk, .int .i64 dw, .int .i64 dd, .int .i64 hs, .int .i64 0, .int .i64 sv, .string sl] ∧ Below w.heap.size w (w7.setCell ⟨g, 7, none⟩ (.string (T6 ++ ⟨#[119]⟩))) from ⟨HG7.out.1.far hgne _, HG7.out.2.setCell hg _⟩)
  generalize w7.setCell ⟨g, 7, none⟩ (.string (T6 ++ ⟨#[119]⟩)) = w8 at *
  clear HC7 HG7 r8 c7 y7 hgne2
  go_wp2_with fail
  refine (HPa.out _ g _ lm lu HG8.out.2 HLm.out.1 HLm.out.2 HLu.out.1 HLu.out.2 HC8.out.strRow).mono ?_
  rintro e w9 ⟨rfl, hb9⟩
  have HG9 := Lib.hid (show Blk w9 gR 29 #[.string sn, .int .i64 fr, .int .i64 fr, .int .i64 ((i : Int) + 1), .int .i64 dk, .int .i64 dw, .int .i64 dd, .int .i64 hs, .int .i64 0, .int .i64 sv, .string sl] ∧ Below w.heap.size w w9 from ⟨HG8.out.1.below hb9 HG8.out.1.lt, HG8.out.2.trans (hb9.mono HG8.out.2.size)⟩)
  clear HG8 HC8 hb9 HPa HLm
  have u0 : w9.cell? ⟨gR, 0, none⟩ = some (.string sn) := HG9.out.1.cell_ rfl
  have u1 : w9.cell? ⟨gR, 1, none⟩ = some (.int .i64 fr) := HG9.out.1.cell_ rfl
  have u2 : w9.cell? ⟨gR, 2, none⟩ = some (.int .i64 fr) := HG9.out.1.cell_ rfl
  have u3 : w9.cell? ⟨gR, 3, none⟩ = some (.int .i64 ((i : Int) + 1)) := HG9.out.1.cell_ rfl
  have u4 : w9.cell? ⟨gR, 4, none⟩ = some (.int .i64 dk) := HG9.out.1.cell_ rfl
  have u5 : w9.cell? ⟨gR, 5, none⟩ = some (.int .i64 dw) := HG9.out.1.cell_ rfl
  have u6 : w9.cell? ⟨gR, 6, none⟩ = some (.int .i64 dd) := HG9.out.1.cell_ rfl
  have u7 : w9.cell? ⟨gR, 7, none⟩ = some (.int .i64 hs) := HG9.out.1.cell_ rfl
  have u8 : w9.cell? ⟨gR, 8, none⟩ = some (.int .i64 0) := HG9.out.1.cell_ rfl
  have u9 : w9.cell? ⟨gR, 9, none⟩ = some (.int .i64 sv) := HG9.out.1.cell_ rfl
  have u10 : w9.cell? ⟨gR, 10, none⟩ = some (.string sl) := HG9.out.1.cell_ rfl
  have hlR9 := HG9.out.1.lt
  go_wp2_with fail
  refine (HW.out _ (rbelow_alloc HG9.out.2 _)).mono ?_
  rintro e w10 ⟨rfl, hb10⟩
  have HZ := Lib.hid (show Below w.heap.size w w10 from (rbelow_alloc HG9.out.2 _).trans (hb10.mono (rbelow_alloc HG9.out.2 _).size))
  clear hb10 HG9
  go_wp2_with fail
  go_ret
  exact ⟨rfl, HZ.out⟩

set_option maxRecDepth 100000 in
set_option maxHeartbeats 2000000 in
theorem rw_11 (D : Array Value) (sn sl : ByteArray) (fr dk dw dd hs sv : Int) (T T6 : ByteArray) (f0 f1 f2 f3 f4 f5 f7 f8 : List UInt8) (bt x : Nat) (i : Nat) (sM : ByteArray) (w : World) (hi12 : i < 12) (hbt : bt < 65536) (hx : x < 256) (hD : (Tryz.prog.info? 41).map (·.size) = some D.size)
    (HM : Hid (∀ W, Calls Tryz.prog 15 #[.agg D] W fun e w' => e = .returned (.agg #[.string sn, .int .i64 fr, .int .i64 fr, .int .i64 ((i : Int) + 1), .int .i64 dk, .int .i64 dw, .int .i64 dd, .int .i64 hs, .int .i64 1, .int .i64 sv, .string sl]) ∧ Below W.heap.size W w'))
    (HP : Hid (∀ W, Below w.heap.size w W → Calls Tryz.prog 13 #[.agg #[.string sn, .int .i64 fr, .int .i64 fr, .int .i64 ((i : Int) + 1), .int .i64 dk, .int .i64 dw, .int .i64 dd, .int .i64 hs, .int .i64 1, .int .i64 sv, .string sl]] W fun e w' => e = .returned (.tuple #[.string T, .int .i64 0]) ∧ Below W.heap.size W w'))
    (HWo : Hid (∀ W, Below w.heap.size w W → Calls Tryz.prog 16 #[.string T] W fun e w' => (∃ g cap, e = .returned (.slice (some ⟨g, 0, none⟩) 10 cap) ∧ 10 ≤ cap ∧ W.heap.size ≤ g ∧ Hid (WRow w' g [f0, f1, f2, f3, f4, f5, T6.data.toList, f7, f8])) ∧ Below W.heap.size W w'))
    (hcM : ∀ W : World, (W.alloc (.cells #[.string ⟨#[74, 97, 110, 117, 97, 114, 121]⟩, .string ⟨#[70, 101, 98, 114, 117, 97, 114, 121]⟩, .string ⟨#[77, 97, 114, 99, 104]⟩, .string ⟨#[65, 112, 114, 105, 108]⟩, .string ⟨#[77, 97, 121]⟩, .string ⟨#[74, 117, 110, 101]⟩, .string ⟨#[74, 117, 108, 121]⟩, .string ⟨#[65, 117, 103, 117, 115, 116]⟩, .string ⟨#[83, 101, 112, 116, 101, 109, 98, 101, 114]⟩, .string ⟨#[79, 99, 116, 111, 98, 101, 114]⟩, .string ⟨#[78, 111, 118, 101, 109, 98, 101, 114]⟩, .string ⟨#[68, 101, 99, 101, 109, 98, 101, 114]⟩] 9)).cell? ⟨W.heap.size, i, none⟩ = some (.string sM))
    (HTm : Hid (∀ W, Calls Tryz.prog 17 #[.string sM, .int .u16 (bt : Int)] W fun e w' => (∃ l : List UInt8, e = .returned (.string ⟨l.toArray⟩) ∧ Hid (wordR monthL 1 l = ((i : Int) + 1, 0) ∧ l.length ≤ 30)) ∧ Below W.heap.size W w'))
    (HW : Hid (∀ W, Below w.heap.size w W → Calls Tryz.prog 10 #[] W fun e w' => e = .returned (.bool true) ∧ Below W.heap.size W w')) (hwh : ((x : Int) % 2 == 0) = false) (q : Nat) (hq4 : q < 4) (hqI : (x : Int) / 2 % 4 = (q : Int)) (sq : ByteArray) (hcq : ∀ W : World, (W.alloc (.cells #[.string ⟨#[111]⟩, .string ⟨#[111, 110]⟩, .string ⟨#[111, 110, 108]⟩, .string ⟨#[111, 110, 108, 121]⟩] 9)).cell? ⟨W.heap.size, q, none⟩ = some (.string sq)) (HTq : Hid (∀ W, Calls Tryz.prog 17 #[.string sq, .int .u16 (bt : Int)] W fun e w' => (∃ l : List UInt8, e = .returned (.string ⟨l.toArray⟩) ∧ Hid (untilR l fr = (fr, 0) ∧ l.length ≤ 30)) ∧ Below W.heap.size W w'))
    (HPa : Hid (∀ W g cap (lm : List UInt8) (lu : List UInt8), Below w.heap.size w W → wordR monthL 1 lm = ((i : Int) + 1, 0) → lm.length ≤ 30 → untilR lu fr = (fr, 0) → lu.length ≤ 30 → StrRow W g 1 [f0, f1, lu, f3, lm, f5, T6.data.toList, f7, f8] → Calls Tryz.prog 11 #[.slice (some ⟨g, 1, none⟩) 9 cap] W fun e w' => e = .returned (.tuple #[.agg #[.string sn, .int .i64 fr, .int .i64 fr, .int .i64 ((i : Int) + 1), .int .i64 dk, .int .i64 dw, .int .i64 dd, .int .i64 hs, .int .i64 1, .int .i64 sv, .string sl], .int .i64 0]) ∧ Below W.heap.size W w')) :
    Calls Tryz.prog 7 #[.agg D, .int .u16 (bt : Int), .int .u8 (x : Int)] w fun e w' => e = .returned (.bool true) ∧ Below w.heap.size w w' := by
  have hi0 : (0 : Int) ≤ (i : Int) := by omega
  have hi1 : (i : Int) < 12 := by omega
  go_enter Tryz.func7, Tryz.ntmps7
  go_wp2_with (first | (refine wpList_load_row rfl 41 (.tmp 3) rfl w.heap.size rfl 41 D (0, 0) _ (Blk.new _ _ _) Tryz.underlying41 rfl hD ?_) | fail)
  refine (HM.out _).mono ?_
  rintro e w1 ⟨rfl, hb1⟩
  have HB := Lib.hid (show Below w.heap.size w w1 from ((Below.refl _ _).alloc (Nat.le_refl _) _).trans (hb1.mono (by simp)))
  clear hb1
  go_upto_region 2 with fail
  have HG := Lib.hid (And.intro (Blk.new' w1 29 #[.string sn, .int .i64 fr, .int .i64 fr, .int .i64 ((i : Int) + 1), .int .i64 dk, .int .i64 dw, .int .i64 dd, .int .i64 hs, .int .i64 1, .int .i64 sv, .string sl] rfl) (HB.out.alloc HB.out.size (.cells #[.string sn, .int .i64 fr, .int .i64 fr, .int .i64 ((i : Int) + 1), .int .i64 dk, .int .i64 dw, .int .i64 dd, .int .i64 hs, .int .i64 1, .int .i64 sv, .string sl] 29)))
  generalize w1.alloc (.cells #[.string sn, .int .i64 fr, .int .i64 fr, .int .i64 ((i : Int) + 1), .int .i64 dk, .int .i64 dw, .int .i64 dd, .int .i64 hs, .int .i64 1, .int .i64 sv, .string sl] 29) = w2 at *
  have hgR : w.heap.size ≤ w1.heap.size := HB.out.size
  clear HB HM hD
  generalize w1.heap.size = gR at *
  go_wp2_with (first | (refine wpList_load_row rfl 29 (.tmp 7) rfl gR rfl 29 #[.string sn, .int .i64 fr, .int .i64 fr, .int .i64 ((i : Int) + 1), .int .i64 dk, .int .i64 dw, .int .i64 dd, .int .i64 hs, .int .i64 1, .int .i64 sv, .string sl] (0, 0) _ HG.out.1 Tryz.underlying29 rfl infoRule ?_) | fail)
  refine (HP.out _ HG.out.2).mono ?_
  rintro e w3 ⟨rfl, hb3⟩
  have HG3 := Lib.hid (show Blk w3 gR 29 #[.string sn, .int .i64 fr, .int .i64 fr, .int .i64 ((i : Int) + 1), .int .i64 dk, .int .i64 dw, .int .i64 dd, .int .i64 hs, .int .i64 1, .int .i64 sv, .string sl] ∧ Below w.heap.size w w3 from ⟨HG.out.1.below hb3 HG.out.1.lt, HG.out.2.trans (hb3.mono HG.out.2.size)⟩)
  clear HG hb3 HP
  go_wp2_with fail
  refine (HWo.out _ HG3.out.2).mono ?_
  rintro e w4 ⟨⟨g, cap, rfl, hcap, hgg, HC⟩, hb4⟩
  have HG4 := Lib.hid (show Blk w4 gR 29 #[.string sn, .int .i64 fr, .int .i64 fr, .int .i64 ((i : Int) + 1), .int .i64 dk, .int .i64 dw, .int .i64 dd, .int .i64 hs, .int .i64 1, .int .i64 sv, .string sl] ∧ Below w.heap.size w w4 from ⟨HG3.out.1.below hb4 HG3.out.1.lt, HG3.out.2.trans (hb4.mono HG3.out.2.size)⟩)
  have hgne : gR ≠ g := by have := HG3.out.1.lt; omega
  have hg : w.heap.size ≤ g := Nat.le_trans HG3.out.2.size hgg
  clear HG3 hb4 HWo hgg
  have hcap1 : ¬ cap = 1 := by omega
  have hcap2 : (10 : Int) ≤ (cap : Int) := by omega
  have m3 : w4.cell? ⟨gR, 3, none⟩ = some (.int .i64 ((i : Int) + 1)) := HG4.out.1.cell_ rfl
  have hlR := HG4.out.1.lt
  go_wp2_with fail
  refine (HTm.out _).mono ?_
  rintro e w5 ⟨⟨lm, rfl, HLm⟩, hb5⟩
  have HC5 := Lib.hid (show WRow w5 g [f0, f1, f2, f3, f4, f5, T6.data.toList, f7, f8] from (HC.out.alloc _).below hb5)
  have HG5 := Lib.hid (show Blk w5 gR 29 #[.string sn, .int .i64 fr, .int .i64 fr, .int .i64 ((i : Int) + 1), .int .i64 dk, .int .i64 dw, .int .i64 dd, .int .i64 hs, .int .i64 1, .int .i64 sv, .string sl] ∧ Below w.heap.size w w5 from ⟨(HG4.out.1.alloc _).below hb5 (HG4.out.1.alloc _).lt, (rbelow_alloc HG4.out.2 _).trans (hb5.mono (rbelow_alloc HG4.out.2 _).size)⟩)
  clear HC HG4 hb5 HTm m3 hlR hcM
  have c5 : w5.cell? ⟨g, 5, none⟩ = some (.string ⟨f4.toArray⟩) := (HC5.out.2 4 (by decide)).1
  have y5 : w5.frozen? ⟨g, 5, none⟩ = false := (HC5.out.2 4 (by decide)).2
  go_upto_region 8 with fail
  have HC6 := Lib.hid (show WRow (w5.setCell ⟨g, 5, none⟩ (.string ⟨lm.toArray⟩)) g [f0, f1, f2, f3, lm, f5, T6.data.toList, f7, f8] from HC5.out.set_ 4 (by decide) lm)
  have HG6 := Lib.hid (show Blk (w5.setCell ⟨g, 5, none⟩ (.string ⟨lm.toArray⟩)) gR 29 #[.string sn, .int .i64 fr, .int .i64 fr, .int .i64 ((i : Int) + 1), .int .i64 dk, .int .i64 dw, .int .i64 dd, .int .i64 hs, .int .i64 1, .int .i64 sv, .string sl] ∧ Below w.heap.size w (w5.setCell ⟨g, 5, none⟩ (.string ⟨lm.toArray⟩)) from ⟨HG5.out.1.far hgne _, HG5.out.2.setCell hg _⟩)
  generalize w5.setCell ⟨g, 5, none⟩ (.string ⟨lm.toArray⟩) = w6 at *
  clear HC5 HG5 c5 y5
  have r1 : w6.cell? ⟨gR, 1, none⟩ = some (.int .i64 fr) := HG6.out.1.cell_ rfl
  have r2 : w6.cell? ⟨gR, 2, none⟩ = some (.int .i64 fr) := HG6.out.1.cell_ rfl
  have hlR := HG6.out.1.lt
  have hq0 : (0 : Int) ≤ (q : Int) := by omega
  have hq1 : (q : Int) < 4 := by omega
  go_wp2_with fail
  refine (HTq.out _).mono ?_
  rintro e wq ⟨⟨lu, rfl, HLu⟩, hbq⟩
  have HCq := Lib.hid (show WRow wq g [f0, f1, f2, f3, lm, f5, T6.data.toList, f7, f8] from (HC6.out.alloc _).below hbq)
  have HGq := Lib.hid (show Blk wq gR 29 #[.string sn, .int .i64 fr, .int .i64 fr, .int .i64 ((i : Int) + 1), .int .i64 dk, .int .i64 dw, .int .i64 dd, .int .i64 hs, .int .i64 1, .int .i64 sv, .string sl] ∧ Below w.heap.size w wq from ⟨(HG6.out.1.alloc _).below hbq (HG6.out.1.alloc _).lt, (rbelow_alloc HG6.out.2 _).trans (hbq.mono (rbelow_alloc HG6.out.2 _).size)⟩)
  clear HC6 HG6 hbq HTq r1 r2 hlR hcq hq0 hq1
  have c3 : wq.cell? ⟨g, 3, none⟩ = some (.string ⟨f2.toArray⟩) := (HCq.out.2 2 (by decide)).1
  have y3 : wq.frozen? ⟨g, 3, none⟩ = false := (HCq.out.2 2 (by decide)).2
  go_upto_region 14 with fail
  have HC7 := Lib.hid (show WRow (wq.setCell ⟨g, 3, none⟩ (.string ⟨lu.toArray⟩)) g [f0, f1, lu, f3, lm, f5, T6.data.toList, f7, f8] from HCq.out.set_ 2 (by decide) lu)
  have HG7 := Lib.hid (show Blk (wq.setCell ⟨g, 3, none⟩ (.string ⟨lu.toArray⟩)) gR 29 #[.string sn, .int .i64 fr, .int .i64 fr, .int .i64 ((i : Int) + 1), .int .i64 dk, .int .i64 dw, .int .i64 dd, .int .i64 hs, .int .i64 1, .int .i64 sv, .string sl] ∧ Below w.heap.size w (wq.setCell ⟨g, 3, none⟩ (.string ⟨lu.toArray⟩)) from ⟨HGq.out.1.far hgne _, HGq.out.2.setCell hg _⟩)
  generalize wq.setCell ⟨g, 3, none⟩ (.string ⟨lu.toArray⟩) = w7 at *
  clear HCq HGq c3 y3
  have r8 : w7.cell? ⟨gR, 8, none⟩ = some (.int .i64 1) := HG7.out.1.cell_ rfl
  have c7 : w7.cell? ⟨g, 7, none⟩ = some (.string T6) := (HC7.out.2 6 (by decide)).1
  have y7 : w7.frozen? ⟨g, 7, none⟩ = false := (HC7.out.2 6 (by decide)).2
  go_upto_region 18 with fail
  have HC8 := HC7
  have HG8 := HG7
  clear HC7 HG7 r8 c7 y7
  obtain ⟨w8, rfl⟩ : ∃ w8, w8 = w7 := ⟨_, rfl⟩
  go_wp2_with fail
  refine (HPa.out _ g _ lm lu HG8.out.2 HLm.out.1 HLm.out.2 HLu.out.1 HLu.out.2 HC8.out.strRow).mono ?_
  rintro e w9 ⟨rfl, hb9⟩
  have HG9 := Lib.hid (show Blk w9 gR 29 #[.string sn, .int .i64 fr, .int .i64 fr, .int .i64 ((i : Int) + 1), .int .i64 dk, .int .i64 dw, .int .i64 dd, .int .i64 hs, .int .i64 1, .int .i64 sv, .string sl] ∧ Below w.heap.size w w9 from ⟨HG8.out.1.below hb9 HG8.out.1.lt, HG8.out.2.trans (hb9.mono HG8.out.2.size)⟩)
  clear HG8 HC8 hb9 HPa HLm
  have u0 : w9.cell? ⟨gR, 0, none⟩ = some (.string sn) := HG9.out.1.cell_ rfl
  have u1 : w9.cell? ⟨gR, 1, none⟩ = some (.int .i64 fr) := HG9.out.1.cell_ rfl
  have u2 : w9.cell? ⟨gR, 2, none⟩ = some (.int .i64 fr) := HG9.out.1.cell_ rfl
  have u3 : w9.cell? ⟨gR, 3, none⟩ = some (.int .i64 ((i : Int) + 1)) := HG9.out.1.cell_ rfl
  have u4 : w9.cell? ⟨gR, 4, none⟩ = some (.int .i64 dk) := HG9.out.1.cell_ rfl
  have u5 : w9.cell? ⟨gR, 5, none⟩ = some (.int .i64 dw) := HG9.out.1.cell_ rfl
  have u6 : w9.cell? ⟨gR, 6, none⟩ = some (.int .i64 dd) := HG9.out.1.cell_ rfl
  have u7 : w9.cell? ⟨gR, 7, none⟩ = some (.int .i64 hs) := HG9.out.1.cell_ rfl
  have u8 : w9.cell? ⟨gR, 8, none⟩ = some (.int .i64 1) := HG9.out.1.cell_ rfl
  have u9 : w9.cell? ⟨gR, 9, none⟩ = some (.int .i64 sv) := HG9.out.1.cell_ rfl
  have u10 : w9.cell? ⟨gR, 10, none⟩ = some (.string sl) := HG9.out.1.cell_ rfl
  have hlR9 := HG9.out.1.lt
  go_wp2_with fail
  refine (HW.out _ (rbelow_alloc HG9.out.2 _)).mono ?_
  rintro e w10 ⟨rfl, hb10⟩
  have HZ := Lib.hid (show Below w.heap.size w w10 from (rbelow_alloc HG9.out.2 _).trans (hb10.mono (rbelow_alloc HG9.out.2 _).size))
  clear hb10 HG9
  go_wp2_with fail
  go_ret
  exact ⟨rfl, HZ.out⟩

set_option maxRecDepth 100000 in
set_option maxHeartbeats 2000000 in
theorem rw_12 (D : Array Value) (sn sl : ByteArray) (fr dk dw dd hs sv : Int) (T T6 : ByteArray) (f0 f1 f2 f3 f4 f5 f7 f8 : List UInt8) (bt x : Nat) (i : Nat) (sM : ByteArray) (w : World) (hi12 : i < 12) (hbt : bt < 65536) (hx : x < 256) (hD : (Tryz.prog.info? 41).map (·.size) = some D.size)
    (HM : Hid (∀ W, Calls Tryz.prog 15 #[.agg D] W fun e w' => e = .returned (.agg #[.string sn, .int .i64 fr, .int .i64 fr, .int .i64 ((i : Int) + 1), .int .i64 dk, .int .i64 dw, .int .i64 dd, .int .i64 hs, .int .i64 2, .int .i64 sv, .string sl]) ∧ Below W.heap.size W w'))
    (HP : Hid (∀ W, Below w.heap.size w W → Calls Tryz.prog 13 #[.agg #[.string sn, .int .i64 fr, .int .i64 fr, .int .i64 ((i : Int) + 1), .int .i64 dk, .int .i64 dw, .int .i64 dd, .int .i64 hs, .int .i64 2, .int .i64 sv, .string sl]] W fun e w' => e = .returned (.tuple #[.string T, .int .i64 0]) ∧ Below W.heap.size W w'))
    (HWo : Hid (∀ W, Below w.heap.size w W → Calls Tryz.prog 16 #[.string T] W fun e w' => (∃ g cap, e = .returned (.slice (some ⟨g, 0, none⟩) 10 cap) ∧ 10 ≤ cap ∧ W.heap.size ≤ g ∧ Hid (WRow w' g [f0, f1, f2, f3, f4, f5, T6.data.toList, f7, f8])) ∧ Below W.heap.size W w'))
    (hcM : ∀ W : World, (W.alloc (.cells #[.string ⟨#[74, 97, 110, 117, 97, 114, 121]⟩, .string ⟨#[70, 101, 98, 114, 117, 97, 114, 121]⟩, .string ⟨#[77, 97, 114, 99, 104]⟩, .string ⟨#[65, 112, 114, 105, 108]⟩, .string ⟨#[77, 97, 121]⟩, .string ⟨#[74, 117, 110, 101]⟩, .string ⟨#[74, 117, 108, 121]⟩, .string ⟨#[65, 117, 103, 117, 115, 116]⟩, .string ⟨#[83, 101, 112, 116, 101, 109, 98, 101, 114]⟩, .string ⟨#[79, 99, 116, 111, 98, 101, 114]⟩, .string ⟨#[78, 111, 118, 101, 109, 98, 101, 114]⟩, .string ⟨#[68, 101, 99, 101, 109, 98, 101, 114]⟩] 9)).cell? ⟨W.heap.size, i, none⟩ = some (.string sM))
    (HTm : Hid (∀ W, Calls Tryz.prog 17 #[.string sM, .int .u16 (bt : Int)] W fun e w' => (∃ l : List UInt8, e = .returned (.string ⟨l.toArray⟩) ∧ Hid (wordR monthL 1 l = ((i : Int) + 1, 0) ∧ l.length ≤ 30)) ∧ Below W.heap.size W w'))
    (HW : Hid (∀ W, Below w.heap.size w W → Calls Tryz.prog 10 #[] W fun e w' => e = .returned (.bool true) ∧ Below W.heap.size W w')) (hwh : ((x : Int) % 2 == 0) = false) (q : Nat) (hq4 : q < 4) (hqI : (x : Int) / 2 % 4 = (q : Int)) (sq : ByteArray) (hcq : ∀ W : World, (W.alloc (.cells #[.string ⟨#[111]⟩, .string ⟨#[111, 110]⟩, .string ⟨#[111, 110, 108]⟩, .string ⟨#[111, 110, 108, 121]⟩] 9)).cell? ⟨W.heap.size, q, none⟩ = some (.string sq)) (HTq : Hid (∀ W, Calls Tryz.prog 17 #[.string sq, .int .u16 (bt : Int)] W fun e w' => (∃ l : List UInt8, e = .returned (.string ⟨l.toArray⟩) ∧ Hid (untilR l fr = (fr, 0) ∧ l.length ≤ 30)) ∧ Below W.heap.size W w')) (p : Nat) (hp3 : p < 3) (hpI : (x : Int) % 3 = (p : Int)) (sp : ByteArray) (Hcp : Hid (∀ (W : World) (g : Nat), Blk W g 9 #[.string ⟨#[103]⟩, .string ⟨#[122]⟩, .string ⟨#[117]⟩] → W.cell? ⟨g, p, none⟩ = some (.string sp))) (hsp : sp.size ≤ 1) (hT6a : 1 ≤ T6.size) (hT6b : T6.size ≤ 30)
    (HPa : Hid (∀ W g cap (lm : List UInt8) (lu : List UInt8), Below w.heap.size w W → wordR monthL 1 lm = ((i : Int) + 1, 0) → lm.length ≤ 30 → untilR lu fr = (fr, 0) → lu.length ≤ 30 → StrRow W g 1 [f0, f1, lu, f3, lm, f5, (T6.extract 0 (T6.size - 1) ++ sp).data.toList, f7, f8] → Calls Tryz.prog 11 #[.slice (some ⟨g, 1, none⟩) 9 cap] W fun e w' => e = .returned (.tuple #[.agg #[.string sn, .int .i64 fr, .int .i64 fr, .int .i64 ((i : Int) + 1), .int .i64 dk, .int .i64 dw, .int .i64 dd, .int .i64 hs, .int .i64 2, .int .i64 sv, .string sl], .int .i64 0]) ∧ Below W.heap.size W w')) :
    Calls Tryz.prog 7 #[.agg D, .int .u16 (bt : Int), .int .u8 (x : Int)] w fun e w' => e = .returned (.bool true) ∧ Below w.heap.size w w' := by
  have hi0 : (0 : Int) ≤ (i : Int) := by omega
  have hi1 : (i : Int) < 12 := by omega
  go_enter Tryz.func7, Tryz.ntmps7
  go_wp2_with (first | (refine wpList_load_row rfl 41 (.tmp 3) rfl w.heap.size rfl 41 D (0, 0) _ (Blk.new _ _ _) Tryz.underlying41 rfl hD ?_) | fail)
  refine (HM.out _).mono ?_
  rintro e w1 ⟨rfl, hb1⟩
  have HB := Lib.hid (show Below w.heap.size w w1 from ((Below.refl _ _).alloc (Nat.le_refl _) _).trans (hb1.mono (by simp)))
  clear hb1
  go_upto_region 2 with fail
  have HG := Lib.hid (And.intro (Blk.new' w1 29 #[.string sn, .int .i64 fr, .int .i64 fr, .int .i64 ((i : Int) + 1), .int .i64 dk, .int .i64 dw, .int .i64 dd, .int .i64 hs, .int .i64 2, .int .i64 sv, .string sl] rfl) (HB.out.alloc HB.out.size (.cells #[.string sn, .int .i64 fr, .int .i64 fr, .int .i64 ((i : Int) + 1), .int .i64 dk, .int .i64 dw, .int .i64 dd, .int .i64 hs, .int .i64 2, .int .i64 sv, .string sl] 29)))
  generalize w1.alloc (.cells #[.string sn, .int .i64 fr, .int .i64 fr, .int .i64 ((i : Int) + 1), .int .i64 dk, .int .i64 dw, .int .i64 dd, .int .i64 hs, .int .i64 2, .int .i64 sv, .string sl] 29) = w2 at *
  have hgR : w.heap.size ≤ w1.heap.size := HB.out.size
  clear HB HM hD
  generalize w1.heap.size = gR at *
  go_wp2_with (first | (refine wpList_load_row rfl 29 (.tmp 7) rfl gR rfl 29 #[.string sn, .int .i64 fr, .int .i64 fr, .int .i64 ((i : Int) + 1), .int .i64 dk, .int .i64 dw, .int .i64 dd, .int .i64 hs, .int .i64 2, .int .i64 sv, .string sl] (0, 0) _ HG.out.1 Tryz.underlying29 rfl infoRule ?_) | fail)
  refine (HP.out _ HG.out.2).mono ?_
  rintro e w3 ⟨rfl, hb3⟩
  have HG3 := Lib.hid (show Blk w3 gR 29 #[.string sn, .int .i64 fr, .int .i64 fr, .int .i64 ((i : Int) + 1), .int .i64 dk, .int .i64 dw, .int .i64 dd, .int .i64 hs, .int .i64 2, .int .i64 sv, .string sl] ∧ Below w.heap.size w w3 from ⟨HG.out.1.below hb3 HG.out.1.lt, HG.out.2.trans (hb3.mono HG.out.2.size)⟩)
  clear HG hb3 HP
  go_wp2_with fail
  refine (HWo.out _ HG3.out.2).mono ?_
  rintro e w4 ⟨⟨g, cap, rfl, hcap, hgg, HC⟩, hb4⟩
  have HG4 := Lib.hid (show Blk w4 gR 29 #[.string sn, .int .i64 fr, .int .i64 fr, .int .i64 ((i : Int) + 1), .int .i64 dk, .int .i64 dw, .int .i64 dd, .int .i64 hs, .int .i64 2, .int .i64 sv, .string sl] ∧ Below w.heap.size w w4 from ⟨HG3.out.1.below hb4 HG3.out.1.lt, HG3.out.2.trans (hb4.mono HG3.out.2.size)⟩)
  have hgne : gR ≠ g := by have := HG3.out.1.lt; omega
  have hg : w.heap.size ≤ g := Nat.le_trans HG3.out.2.size hgg
  clear HG3 hb4 HWo hgg
  have hcap1 : ¬ cap = 1 := by omega
  have hcap2 : (10 : Int) ≤ (cap : Int) := by omega
  have m3 : w4.cell? ⟨gR, 3, none⟩ = some (.int .i64 ((i : Int) + 1)) := HG4.out.1.cell_ rfl
  have hlR := HG4.out.1.lt
  go_wp2_with fail
  refine (HTm.out _).mono ?_
  rintro e w5 ⟨⟨lm, rfl, HLm⟩, hb5⟩
  have HC5 := Lib.hid (show WRow w5 g [f0, f1, f2, f3, f4, f5, T6.data.toList, f7, f8] from (HC.out.alloc _).below hb5)
  have HG5 := Lib.hid (show Blk w5 gR 29 #[.string sn, .int .i64 fr, .int .i64 fr, .int .i64 ((i : Int) + 1), .int .i64 dk, .int .i64 dw, .int .i64 dd, .int .i64 hs, .int .i64 2, .int .i64 sv, .string sl] ∧ Below w.heap.size w w5 from ⟨(HG4.out.1.alloc _).below hb5 (HG4.out.1.alloc _).lt, (rbelow_alloc HG4.out.2 _).trans (hb5.mono (rbelow_alloc HG4.out.2 _).size)⟩)
  clear HC HG4 hb5 HTm m3 hlR hcM
  have c5 : w5.cell? ⟨g, 5, none⟩ = some (.string ⟨f4.toArray⟩) := (HC5.out.2 4 (by decide)).1
  have y5 : w5.frozen? ⟨g, 5, none⟩ = false := (HC5.out.2 4 (by decide)).2
  go_upto_region 8 with fail
  have HC6 := Lib.hid (show WRow (w5.setCell ⟨g, 5, none⟩ (.string ⟨lm.toArray⟩)) g [f0, f1, f2, f3, lm, f5, T6.data.toList, f7, f8] from HC5.out.set_ 4 (by decide) lm)
  have HG6 := Lib.hid (show Blk (w5.setCell ⟨g, 5, none⟩ (.string ⟨lm.toArray⟩)) gR 29 #[.string sn, .int .i64 fr, .int .i64 fr, .int .i64 ((i : Int) + 1), .int .i64 dk, .int .i64 dw, .int .i64 dd, .int .i64 hs, .int .i64 2, .int .i64 sv, .string sl] ∧ Below w.heap.size w (w5.setCell ⟨g, 5, none⟩ (.string ⟨lm.toArray⟩)) from ⟨HG5.out.1.far hgne _, HG5.out.2.setCell hg _⟩)
  generalize w5.setCell ⟨g, 5, none⟩ (.string ⟨lm.toArray⟩) = w6 at *
  clear HC5 HG5 c5 y5
  have r1 : w6.cell? ⟨gR, 1, none⟩ = some (.int .i64 fr) := HG6.out.1.cell_ rfl
  have r2 : w6.cell? ⟨gR, 2, none⟩ = some (.int .i64 fr) := HG6.out.1.cell_ rfl
  have hlR := HG6.out.1.lt
  have hq0 : (0 : Int) ≤ (q : Int) := by omega
  have hq1 : (q : Int) < 4 := by omega
  go_wp2_with fail
  refine (HTq.out _).mono ?_
  rintro e wq ⟨⟨lu, rfl, HLu⟩, hbq⟩
  have HCq := Lib.hid (show WRow wq g [f0, f1, f2, f3, lm, f5, T6.data.toList, f7, f8] from (HC6.out.alloc _).below hbq)
  have HGq := Lib.hid (show Blk wq gR 29 #[.string sn, .int .i64 fr, .int .i64 fr, .int .i64 ((i : Int) + 1), .int .i64 dk, .int .i64 dw, .int .i64 dd, .int .i64 hs, .int .i64 2, .int .i64 sv, .string sl] ∧ Below w.heap.size w wq from ⟨(HG6.out.1.alloc _).below hbq (HG6.out.1.alloc _).lt, (rbelow_alloc HG6.out.2 _).trans (hbq.mono (rbelow_alloc HG6.out.2 _).size)⟩)
  clear HC6 HG6 hbq HTq r1 r2 hlR hcq hq0 hq1
  have c3 : wq.cell? ⟨g, 3, none⟩ = some (.string ⟨f2.toArray⟩) := (HCq.out.2 2 (by decide)).1
  have y3 : wq.frozen? ⟨g, 3, none⟩ = false := (HCq.out.2 2 (by decide)).2
  go_upto_region 14 with fail
  have HC7 := Lib.hid (show WRow (wq.setCell ⟨g, 3, none⟩ (.string ⟨lu.toArray⟩)) g [f0, f1, lu, f3, lm, f5, T6.data.toList, f7, f8] from HCq.out.set_ 2 (by decide) lu)
  have HG7 := Lib.hid (show Blk (wq.setCell ⟨g, 3, none⟩ (.string ⟨lu.toArray⟩)) gR 29 #[.string sn, .int .i64 fr, .int .i64 fr, .int .i64 ((i : Int) + 1), .int .i64 dk, .int .i64 dw, .int .i64 dd, .int .i64 hs, .int .i64 2, .int .i64 sv, .string sl] ∧ Below w.heap.size w (wq.setCell ⟨g, 3, none⟩ (.string ⟨lu.toArray⟩)) from ⟨HGq.out.1.far hgne _, HGq.out.2.setCell hg _⟩)
  generalize wq.setCell ⟨g, 3, none⟩ (.string ⟨lu.toArray⟩) = w7 at *
  clear HCq HGq c3 y3
  have r8 : w7.cell? ⟨gR, 8, none⟩ = some (.int .i64 2) := HG7.out.1.cell_ rfl
  have c7 : w7.cell? ⟨g, 7, none⟩ = some (.string T6) := (HC7.out.2 6 (by decide)).1
  have y7 : w7.frozen? ⟨g, 7, none⟩ = false := (HC7.out.2 6 (by decide)).2
  have hp0 : (0 : Int) ≤ (p : Int) := by omega
  have hp1 : (p : Int) < 3 := by omega
  have hT6c : decide (0 < T6.size) = true := by simp; omega
  have hT6w : IntKind.i64.wrap ((T6.size : Int) - 1) = (T6.size : Int) - 1 := IntWalk.i64_in _ (by omega)
  have hT6n : ((T6.size : Int) - 1).toNat = T6.size - 1 := by omega
  have hT6p : (0 : Int) ≤ (T6.size : Int) - 1 := by omega
  have hT6r : (1 : Int) ≤ (T6.size : Int) := by omega
  have hT6s : ¬ 9223372036854775807 < T6.size - 1 + sp.size := by omega
  have hT6q : (T6.size : Int) - 1 ≤ (T6.size : Int) := by omega
  have htm : (x : Int).tmod 3 = (p : Int) := by rw [Int.tmod_eq_emod_of_nonneg (by omega)]; exact hpI
  go_upto_region 17 with fail
  refine wp_region_rels 17 [[], [], [], [], [], [], [], [], [], [], [], [], [], [10], [13], [], []] [Form.val, Form.val, Form.val, Form.val, Form.val, Form.val, Form.val, Form.val, Form.val, Form.val, Form.rel (TabIs3 #[.string ⟨#[103]⟩, .string ⟨#[122]⟩, .string ⟨#[117]⟩]), Form.val, Form.val, Form.rel (PtrIs3 p #[.string ⟨#[103]⟩, .string ⟨#[122]⟩, .string ⟨#[117]⟩]), Form.val, Form.val, Form.val] (W2Held w g gR [f0, f1, lu, f3, lm, f5, T6.data.toList, f7, f8] #[.string sn, .int .i64 fr, .int .i64 fr, .int .i64 ((i : Int) + 1), .int .i64 dk, .int .i64 dw, .int .i64 dd, .int .i64 hs, .int .i64 2, .int .i64 sv, .string sl]) (by kernel_rfl) (by kernel_rfl) rfl rfl (⟨HC7.out, HG7.out.1, HG7.out.2.drew⟩) (fun W W' h hb => ⟨h.1.below hb, h.2.1.below hb h.2.1.lt, h.2.2.trans (hb.mono h.2.2.size)⟩) ⟨TabIs3.lasts _, PtrIs3.lasts _ _, trivial⟩ ?_
  repeat (first | apply exSpec_rel | apply exSpec_new | apply exSpec_val)
  apply relWalk_ex rfl ?o0 (fun K hK => ?n0)
  case o0 =>
    intro W hC hF
    have c7 : W.cell? ⟨g, 7, none⟩ = some (.string T6) := (hC.1.2 6 (by decide)).1
    go_simp
    all_goals exact ⟨Below.refl _ _, rfl⟩
  case' n0 =>
    go_simp
    refine hK _ ?_
    clear hK K
  apply relWalk_ex rfl ?o1 (fun K hK => ?n1)
  case o1 =>
    intro W hC hF
    have c7 : W.cell? ⟨g, 7, none⟩ = some (.string T6) := (hC.1.2 6 (by decide)).1
    go_simp
    all_goals exact ⟨Below.refl _ _, rfl⟩
  case' n1 =>
    go_simp
    refine hK _ ?_
    clear hK K
  apply relWalk_ex rfl ?o2 (fun K hK => ?n2)
  case o2 =>
    intro W hC hF
    have c7 : W.cell? ⟨g, 7, none⟩ = some (.string T6) := (hC.1.2 6 (by decide)).1
    go_simp
    all_goals exact ⟨Below.refl _ _, rfl⟩
  case' n2 =>
    go_simp
    refine hK _ ?_
    clear hK K
  apply relWalk_ex rfl ?o3 (fun K hK => ?n3)
  case o3 =>
    intro W hC hF
    have c7 : W.cell? ⟨g, 7, none⟩ = some (.string T6) := (hC.1.2 6 (by decide)).1
    go_simp
    all_goals exact ⟨Below.refl _ _, rfl⟩
  case' n3 =>
    go_simp
    refine hK _ ?_
    clear hK K
  apply relWalk_ex rfl ?o4 (fun K hK => ?n4)
  case o4 =>
    intro W hC hF
    have c7 : W.cell? ⟨g, 7, none⟩ = some (.string T6) := (hC.1.2 6 (by decide)).1
    go_simp
    all_goals exact ⟨Below.refl _ _, rfl⟩
  case' n4 =>
    go_simp
    refine hK _ ?_
    clear hK K
  apply relWalk_ex rfl ?o5 (fun K hK => ?n5)
  case o5 =>
    intro W hC hF
    have c7 : W.cell? ⟨g, 7, none⟩ = some (.string T6) := (hC.1.2 6 (by decide)).1
    go_simp
    all_goals exact ⟨Below.refl _ _, rfl⟩
  case' n5 =>
    go_simp
    refine hK _ ?_
    clear hK K
  apply relWalk_ex rfl ?o6 (fun K hK => ?n6)
  case o6 =>
    intro W hC hF
    have c7 : W.cell? ⟨g, 7, none⟩ = some (.string T6) := (hC.1.2 6 (by decide)).1
    go_simp
    all_goals exact ⟨Below.refl _ _, rfl⟩
  case' n6 =>
    go_simp
    refine hK _ ?_
    clear hK K
  apply relWalk_ex rfl ?o7 (fun K hK => ?n7)
  case o7 =>
    intro W hC hF
    have c7 : W.cell? ⟨g, 7, none⟩ = some (.string T6) := (hC.1.2 6 (by decide)).1
    go_simp
    all_goals exact ⟨Below.refl _ _, rfl⟩
  case' n7 =>
    go_simp
    refine hK _ ?_
    clear hK K
  apply relWalk_ex rfl ?o8 (fun K hK => ?n8)
  case o8 =>
    intro W hC hF
    have c7 : W.cell? ⟨g, 7, none⟩ = some (.string T6) := (hC.1.2 6 (by decide)).1
    go_simp
    all_goals exact ⟨Below.refl _ _, rfl⟩
  case' n8 =>
    go_simp
    refine hK _ ?_
    clear hK K
  apply relWalk_ex rfl ?o9 (fun K hK => ?n9)
  case o9 =>
    intro W hC hF
    have c7 : W.cell? ⟨g, 7, none⟩ = some (.string T6) := (hC.1.2 6 (by decide)).1
    go_simp
    all_goals exact ⟨Below.refl _ _, rfl⟩
  case' n9 =>
    go_simp
    refine hK _ ?_
    clear hK K
  apply relWalk_rel rfl ?o10 (fun u10 K hK => ?n10)
  case o10 =>
    intro W hC hF
    have c7 : W.cell? ⟨g, 7, none⟩ = some (.string T6) := (hC.1.2 6 (by decide)).1
    go_simp
    all_goals exact ⟨by go_grown, _, rfl, Blk.new _ _ _⟩
  case' n10 =>
    go_simp
    refine hK _ ?_
    clear hK K
  apply relWalk_ex rfl ?o11 (fun K hK => ?n11)
  case o11 =>
    intro W hC hF
    have c7 : W.cell? ⟨g, 7, none⟩ = some (.string T6) := (hC.1.2 6 (by decide)).1
    go_simp
    all_goals exact ⟨Below.refl _ _, rfl⟩
  case' n11 =>
    go_simp
    refine hK _ ?_
    clear hK K
  apply relWalk_ex rfl ?o12 (fun K hK => ?n12)
  case o12 =>
    intro W hC hF
    have c7 : W.cell? ⟨g, 7, none⟩ = some (.string T6) := (hC.1.2 6 (by decide)).1
    go_simp
    all_goals exact ⟨Below.refl _ _, rfl⟩
  case' n12 =>
    go_simp
    refine hK _ ?_
    clear hK K
  apply relWalk_rel rfl ?o13 (fun u13 K hK => ?n13)
  case o13 =>
    intro W hC hF
    obtain ⟨⟨gz, rfl, hB⟩, -⟩ := hF
    have c7 : W.cell? ⟨g, 7, none⟩ = some (.string T6) := (hC.1.2 6 (by decide)).1
    go_simp
    all_goals exact ⟨by go_grown, gz, rfl, hB⟩
  case' n13 =>
    go_simp
    refine hK _ ?_
    clear hK K
  apply relWalk_ex rfl ?o14 (fun K hK => ?n14)
  case o14 =>
    intro W hC hF
    obtain ⟨⟨gz, rfl, hB⟩, -⟩ := hF
    have hxp : W.cell? ⟨gz, p, none⟩ = some (.string sp) := Hcp.out W gz hB
    have c7 : W.cell? ⟨g, 7, none⟩ = some (.string T6) := (hC.1.2 6 (by decide)).1
    go_simp
    all_goals exact ⟨Below.refl _ _, rfl⟩
  case' n14 =>
    go_simp
    refine hK _ ?_
    clear hK K
  apply relWalk_ex rfl ?o15 (fun K hK => ?n15)
  case o15 =>
    intro W hC hF
    have c7 : W.cell? ⟨g, 7, none⟩ = some (.string T6) := (hC.1.2 6 (by decide)).1
    go_simp
    all_goals exact ⟨Below.refl _ _, rfl⟩
  case' n15 =>
    go_simp
    refine hK _ ?_
    clear hK K
  apply relWalk_ex rfl ?o16 (fun K hK => ?n16)
  case o16 =>
    intro W hC hF
    have c7 : W.cell? ⟨g, 7, none⟩ = some (.string T6) := (hC.1.2 6 (by decide)).1
    go_simp
    all_goals exact ⟨Below.refl _ _, rfl⟩
  case' n16 =>
    go_simp
    refine hK _ ?_
    clear hK K
  apply relWalk_end
  intro W hC hF hU
  have z7 : W.cell? ⟨g, 7, none⟩ = some (.string T6) := (hC.1.2 6 (by decide)).1
  have y8 : W.frozen? ⟨g, 7, none⟩ = false := (hC.1.2 6 (by decide)).2
  have HC7b := Lib.hid hC
  clear hC hF hU HC7 HG7 r8 c7 y7
  go_upto_region 18 with fail
  have HC8 := Lib.hid (show WRow (W.setCell ⟨g, 7, none⟩ (.string (T6.extract 0 (T6.size - 1) ++ sp))) g [f0, f1, lu, f3, lm, f5, (T6.extract 0 (T6.size - 1) ++ sp).data.toList, f7, f8] from HC7b.out.1.set_ 6 (by decide) (T6.extract 0 (T6.size - 1) ++ sp).data.toList)
  have HG8 := Lib.hid (show Blk (W.setCell ⟨g, 7, none⟩ (.string (T6.extract 0 (T6.size - 1) ++ sp))) gR 29 #[.string sn, .int .i64 fr, .int .i64 fr, .int .i64 ((i : Int) + 1), .int .i64 dk, .int .i64 dw, .int .i64 dd, .int .i64 hs, .int .i64 2, .int .i64 sv, .string sl] ∧ Below w.heap.size w (W.setCell ⟨g, 7, none⟩ (.string (T6.extract 0 (T6.size - 1) ++ sp))) from ⟨HC7b.out.2.1.far hgne _, HC7b.out.2.2.setCell hg _⟩)
  generalize W.setCell ⟨g, 7, none⟩ (.string (T6.extract 0 (T6.size - 1) ++ sp)) = w8 at *
  clear HC7b z7 y8
  go_wp2_with fail
  refine (HPa.out _ g _ lm lu HG8.out.2 HLm.out.1 HLm.out.2 HLu.out.1 HLu.out.2 HC8.out.strRow).mono ?_
  rintro e w9 ⟨rfl, hb9⟩
  have HG9 := Lib.hid (show Blk w9 gR 29 #[.string sn, .int .i64 fr, .int .i64 fr, .int .i64 ((i : Int) + 1), .int .i64 dk, .int .i64 dw, .int .i64 dd, .int .i64 hs, .int .i64 2, .int .i64 sv, .string sl] ∧ Below w.heap.size w w9 from ⟨HG8.out.1.below hb9 HG8.out.1.lt, HG8.out.2.trans (hb9.mono HG8.out.2.size)⟩)
  clear HG8 HC8 hb9 HPa HLm
  have u0 : w9.cell? ⟨gR, 0, none⟩ = some (.string sn) := HG9.out.1.cell_ rfl
  have u1 : w9.cell? ⟨gR, 1, none⟩ = some (.int .i64 fr) := HG9.out.1.cell_ rfl
  have u2 : w9.cell? ⟨gR, 2, none⟩ = some (.int .i64 fr) := HG9.out.1.cell_ rfl
  have u3 : w9.cell? ⟨gR, 3, none⟩ = some (.int .i64 ((i : Int) + 1)) := HG9.out.1.cell_ rfl
  have u4 : w9.cell? ⟨gR, 4, none⟩ = some (.int .i64 dk) := HG9.out.1.cell_ rfl
  have u5 : w9.cell? ⟨gR, 5, none⟩ = some (.int .i64 dw) := HG9.out.1.cell_ rfl
  have u6 : w9.cell? ⟨gR, 6, none⟩ = some (.int .i64 dd) := HG9.out.1.cell_ rfl
  have u7 : w9.cell? ⟨gR, 7, none⟩ = some (.int .i64 hs) := HG9.out.1.cell_ rfl
  have u8 : w9.cell? ⟨gR, 8, none⟩ = some (.int .i64 2) := HG9.out.1.cell_ rfl
  have u9 : w9.cell? ⟨gR, 9, none⟩ = some (.int .i64 sv) := HG9.out.1.cell_ rfl
  have u10 : w9.cell? ⟨gR, 10, none⟩ = some (.string sl) := HG9.out.1.cell_ rfl
  have hlR9 := HG9.out.1.lt
  go_wp2_with fail
  refine (HW.out _ (rbelow_alloc HG9.out.2 _)).mono ?_
  rintro e w10 ⟨rfl, hb10⟩
  have HZ := Lib.hid (show Below w.heap.size w w10 from (rbelow_alloc HG9.out.2 _).trans (hb10.mono (rbelow_alloc HG9.out.2 _).size))
  clear hb10 HG9
  go_wp2_with fail
  go_ret
  exact ⟨rfl, HZ.out⟩

set_option maxRecDepth 100000 in
set_option maxHeartbeats 2000000 in
theorem rw_20 (D : Array Value) (sn sl : ByteArray) (fr dk dw dd hs sv : Int) (T T6 : ByteArray) (f0 f1 f2 f3 f4 f5 f7 f8 : List UInt8) (bt x : Nat) (i : Nat) (sM : ByteArray) (w : World) (hi12 : i < 12) (hbt : bt < 65536) (hx : x < 256) (hD : (Tryz.prog.info? 41).map (·.size) = some D.size)
    (HM : Hid (∀ W, Calls Tryz.prog 15 #[.agg D] W fun e w' => e = .returned (.agg #[.string sn, .int .i64 fr, .int .i64 1048576, .int .i64 ((i : Int) + 1), .int .i64 dk, .int .i64 dw, .int .i64 dd, .int .i64 hs, .int .i64 0, .int .i64 sv, .string sl]) ∧ Below W.heap.size W w'))
    (HP : Hid (∀ W, Below w.heap.size w W → Calls Tryz.prog 13 #[.agg #[.string sn, .int .i64 fr, .int .i64 1048576, .int .i64 ((i : Int) + 1), .int .i64 dk, .int .i64 dw, .int .i64 dd, .int .i64 hs, .int .i64 0, .int .i64 sv, .string sl]] W fun e w' => e = .returned (.tuple #[.string T, .int .i64 0]) ∧ Below W.heap.size W w'))
    (HWo : Hid (∀ W, Below w.heap.size w W → Calls Tryz.prog 16 #[.string T] W fun e w' => (∃ g cap, e = .returned (.slice (some ⟨g, 0, none⟩) 10 cap) ∧ 10 ≤ cap ∧ W.heap.size ≤ g ∧ Hid (WRow w' g [f0, f1, f2, f3, f4, f5, T6.data.toList, f7, f8])) ∧ Below W.heap.size W w'))
    (hcM : ∀ W : World, (W.alloc (.cells #[.string ⟨#[74, 97, 110, 117, 97, 114, 121]⟩, .string ⟨#[70, 101, 98, 114, 117, 97, 114, 121]⟩, .string ⟨#[77, 97, 114, 99, 104]⟩, .string ⟨#[65, 112, 114, 105, 108]⟩, .string ⟨#[77, 97, 121]⟩, .string ⟨#[74, 117, 110, 101]⟩, .string ⟨#[74, 117, 108, 121]⟩, .string ⟨#[65, 117, 103, 117, 115, 116]⟩, .string ⟨#[83, 101, 112, 116, 101, 109, 98, 101, 114]⟩, .string ⟨#[79, 99, 116, 111, 98, 101, 114]⟩, .string ⟨#[78, 111, 118, 101, 109, 98, 101, 114]⟩, .string ⟨#[68, 101, 99, 101, 109, 98, 101, 114]⟩] 9)).cell? ⟨W.heap.size, i, none⟩ = some (.string sM))
    (HTm : Hid (∀ W, Calls Tryz.prog 17 #[.string sM, .int .u16 (bt : Int)] W fun e w' => (∃ l : List UInt8, e = .returned (.string ⟨l.toArray⟩) ∧ Hid (wordR monthL 1 l = ((i : Int) + 1, 0) ∧ l.length ≤ 30)) ∧ Below W.heap.size W w'))
    (HW : Hid (∀ W, Below w.heap.size w W → Calls Tryz.prog 10 #[] W fun e w' => e = .returned (.bool true) ∧ Below W.heap.size W w')) (q : Nat) (hq4 : q < 4) (hqI : (x : Int) / 2 % 4 = (q : Int)) (sq : ByteArray) (hcq : ∀ W : World, (W.alloc (.cells #[.string ⟨#[109, 97]⟩, .string ⟨#[109, 97, 120]⟩, .string ⟨#[109, 97, 120, 105]⟩, .string ⟨#[109, 97, 120, 105, 109, 117, 109]⟩] 9)).cell? ⟨W.heap.size, q, none⟩ = some (.string sq)) (HTq : Hid (∀ W, Calls Tryz.prog 17 #[.string sq, .int .u16 (bt : Int)] W fun e w' => (∃ l : List UInt8, e = .returned (.string ⟨l.toArray⟩) ∧ Hid (untilR l fr = (1048576, 0) ∧ l.length ≤ 30)) ∧ Below W.heap.size W w')) (hft : ((1048576 : Int) == fr) = false) (hT6b : T6.size ≤ 30)
    (HPa : Hid (∀ W g cap (lm : List UInt8) (lu : List UInt8), Below w.heap.size w W → wordR monthL 1 lm = ((i : Int) + 1, 0) → lm.length ≤ 30 → untilR lu fr = (1048576, 0) → lu.length ≤ 30 → StrRow W g 1 [f0, f1, lu, f3, lm, f5, (T6 ++ ⟨#[119]⟩).data.toList, f7, f8] → Calls Tryz.prog 11 #[.slice (some ⟨g, 1, none⟩) 9 cap] W fun e w' => e = .returned (.tuple #[.agg #[.string sn, .int .i64 fr, .int .i64 1048576, .int .i64 ((i : Int) + 1), .int .i64 dk, .int .i64 dw, .int .i64 dd, .int .i64 hs, .int .i64 0, .int .i64 sv, .string sl], .int .i64 0]) ∧ Below W.heap.size W w')) :
    Calls Tryz.prog 7 #[.agg D, .int .u16 (bt : Int), .int .u8 (x : Int)] w fun e w' => e = .returned (.bool true) ∧ Below w.heap.size w w' := by
  have hi0 : (0 : Int) ≤ (i : Int) := by omega
  have hi1 : (i : Int) < 12 := by omega
  go_enter Tryz.func7, Tryz.ntmps7
  go_wp2_with (first | (refine wpList_load_row rfl 41 (.tmp 3) rfl w.heap.size rfl 41 D (0, 0) _ (Blk.new _ _ _) Tryz.underlying41 rfl hD ?_) | fail)
  refine (HM.out _).mono ?_
  rintro e w1 ⟨rfl, hb1⟩
  have HB := Lib.hid (show Below w.heap.size w w1 from ((Below.refl _ _).alloc (Nat.le_refl _) _).trans (hb1.mono (by simp)))
  clear hb1
  go_upto_region 2 with fail
  have HG := Lib.hid (And.intro (Blk.new' w1 29 #[.string sn, .int .i64 fr, .int .i64 1048576, .int .i64 ((i : Int) + 1), .int .i64 dk, .int .i64 dw, .int .i64 dd, .int .i64 hs, .int .i64 0, .int .i64 sv, .string sl] rfl) (HB.out.alloc HB.out.size (.cells #[.string sn, .int .i64 fr, .int .i64 1048576, .int .i64 ((i : Int) + 1), .int .i64 dk, .int .i64 dw, .int .i64 dd, .int .i64 hs, .int .i64 0, .int .i64 sv, .string sl] 29)))
  generalize w1.alloc (.cells #[.string sn, .int .i64 fr, .int .i64 1048576, .int .i64 ((i : Int) + 1), .int .i64 dk, .int .i64 dw, .int .i64 dd, .int .i64 hs, .int .i64 0, .int .i64 sv, .string sl] 29) = w2 at *
  have hgR : w.heap.size ≤ w1.heap.size := HB.out.size
  clear HB HM hD
  generalize w1.heap.size = gR at *
  go_wp2_with (first | (refine wpList_load_row rfl 29 (.tmp 7) rfl gR rfl 29 #[.string sn, .int .i64 fr, .int .i64 1048576, .int .i64 ((i : Int) + 1), .int .i64 dk, .int .i64 dw, .int .i64 dd, .int .i64 hs, .int .i64 0, .int .i64 sv, .string sl] (0, 0) _ HG.out.1 Tryz.underlying29 rfl infoRule ?_) | fail)
  refine (HP.out _ HG.out.2).mono ?_
  rintro e w3 ⟨rfl, hb3⟩
  have HG3 := Lib.hid (show Blk w3 gR 29 #[.string sn, .int .i64 fr, .int .i64 1048576, .int .i64 ((i : Int) + 1), .int .i64 dk, .int .i64 dw, .int .i64 dd, .int .i64 hs, .int .i64 0, .int .i64 sv, .string sl] ∧ Below w.heap.size w w3 from ⟨HG.out.1.below hb3 HG.out.1.lt, HG.out.2.trans (hb3.mono HG.out.2.size)⟩)
  clear HG hb3 HP
  go_wp2_with fail
  refine (HWo.out _ HG3.out.2).mono ?_
  rintro e w4 ⟨⟨g, cap, rfl, hcap, hgg, HC⟩, hb4⟩
  have HG4 := Lib.hid (show Blk w4 gR 29 #[.string sn, .int .i64 fr, .int .i64 1048576, .int .i64 ((i : Int) + 1), .int .i64 dk, .int .i64 dw, .int .i64 dd, .int .i64 hs, .int .i64 0, .int .i64 sv, .string sl] ∧ Below w.heap.size w w4 from ⟨HG3.out.1.below hb4 HG3.out.1.lt, HG3.out.2.trans (hb4.mono HG3.out.2.size)⟩)
  have hgne : gR ≠ g := by have := HG3.out.1.lt; omega
  have hg : w.heap.size ≤ g := Nat.le_trans HG3.out.2.size hgg
  clear HG3 hb4 HWo hgg
  have hcap1 : ¬ cap = 1 := by omega
  have hcap2 : (10 : Int) ≤ (cap : Int) := by omega
  have m3 : w4.cell? ⟨gR, 3, none⟩ = some (.int .i64 ((i : Int) + 1)) := HG4.out.1.cell_ rfl
  have hlR := HG4.out.1.lt
  go_wp2_with fail
  refine (HTm.out _).mono ?_
  rintro e w5 ⟨⟨lm, rfl, HLm⟩, hb5⟩
  have HC5 := Lib.hid (show WRow w5 g [f0, f1, f2, f3, f4, f5, T6.data.toList, f7, f8] from (HC.out.alloc _).below hb5)
  have HG5 := Lib.hid (show Blk w5 gR 29 #[.string sn, .int .i64 fr, .int .i64 1048576, .int .i64 ((i : Int) + 1), .int .i64 dk, .int .i64 dw, .int .i64 dd, .int .i64 hs, .int .i64 0, .int .i64 sv, .string sl] ∧ Below w.heap.size w w5 from ⟨(HG4.out.1.alloc _).below hb5 (HG4.out.1.alloc _).lt, (rbelow_alloc HG4.out.2 _).trans (hb5.mono (rbelow_alloc HG4.out.2 _).size)⟩)
  clear HC HG4 hb5 HTm m3 hlR hcM
  have c5 : w5.cell? ⟨g, 5, none⟩ = some (.string ⟨f4.toArray⟩) := (HC5.out.2 4 (by decide)).1
  have y5 : w5.frozen? ⟨g, 5, none⟩ = false := (HC5.out.2 4 (by decide)).2
  go_upto_region 8 with fail
  have HC6 := Lib.hid (show WRow (w5.setCell ⟨g, 5, none⟩ (.string ⟨lm.toArray⟩)) g [f0, f1, f2, f3, lm, f5, T6.data.toList, f7, f8] from HC5.out.set_ 4 (by decide) lm)
  have HG6 := Lib.hid (show Blk (w5.setCell ⟨g, 5, none⟩ (.string ⟨lm.toArray⟩)) gR 29 #[.string sn, .int .i64 fr, .int .i64 1048576, .int .i64 ((i : Int) + 1), .int .i64 dk, .int .i64 dw, .int .i64 dd, .int .i64 hs, .int .i64 0, .int .i64 sv, .string sl] ∧ Below w.heap.size w (w5.setCell ⟨g, 5, none⟩ (.string ⟨lm.toArray⟩)) from ⟨HG5.out.1.far hgne _, HG5.out.2.setCell hg _⟩)
  generalize w5.setCell ⟨g, 5, none⟩ (.string ⟨lm.toArray⟩) = w6 at *
  clear HC5 HG5 c5 y5
  have r1 : w6.cell? ⟨gR, 1, none⟩ = some (.int .i64 fr) := HG6.out.1.cell_ rfl
  have r2 : w6.cell? ⟨gR, 2, none⟩ = some (.int .i64 1048576) := HG6.out.1.cell_ rfl
  have hlR := HG6.out.1.lt
  have hq0 : (0 : Int) ≤ (q : Int) := by omega
  have hq1 : (q : Int) < 4 := by omega
  go_wp2_with fail
  refine (HTq.out _).mono ?_
  rintro e wq ⟨⟨lu, rfl, HLu⟩, hbq⟩
  have HCq := Lib.hid (show WRow wq g [f0, f1, f2, f3, lm, f5, T6.data.toList, f7, f8] from (HC6.out.alloc _).below hbq)
  have HGq := Lib.hid (show Blk wq gR 29 #[.string sn, .int .i64 fr, .int .i64 1048576, .int .i64 ((i : Int) + 1), .int .i64 dk, .int .i64 dw, .int .i64 dd, .int .i64 hs, .int .i64 0, .int .i64 sv, .string sl] ∧ Below w.heap.size w wq from ⟨(HG6.out.1.alloc _).below hbq (HG6.out.1.alloc _).lt, (rbelow_alloc HG6.out.2 _).trans (hbq.mono (rbelow_alloc HG6.out.2 _).size)⟩)
  clear HC6 HG6 hbq HTq r1 r2 hlR hcq hq0 hq1
  have c3 : wq.cell? ⟨g, 3, none⟩ = some (.string ⟨f2.toArray⟩) := (HCq.out.2 2 (by decide)).1
  have y3 : wq.frozen? ⟨g, 3, none⟩ = false := (HCq.out.2 2 (by decide)).2
  go_upto_region 14 with fail
  have HC7 := Lib.hid (show WRow (wq.setCell ⟨g, 3, none⟩ (.string ⟨lu.toArray⟩)) g [f0, f1, lu, f3, lm, f5, T6.data.toList, f7, f8] from HCq.out.set_ 2 (by decide) lu)
  have HG7 := Lib.hid (show Blk (wq.setCell ⟨g, 3, none⟩ (.string ⟨lu.toArray⟩)) gR 29 #[.string sn, .int .i64 fr, .int .i64 1048576, .int .i64 ((i : Int) + 1), .int .i64 dk, .int .i64 dw, .int .i64 dd, .int .i64 hs, .int .i64 0, .int .i64 sv, .string sl] ∧ Below w.heap.size w (wq.setCell ⟨g, 3, none⟩ (.string ⟨lu.toArray⟩)) from ⟨HGq.out.1.far hgne _, HGq.out.2.setCell hg _⟩)
  generalize wq.setCell ⟨g, 3, none⟩ (.string ⟨lu.toArray⟩) = w7 at *
  clear HCq HGq c3 y3
  have r8 : w7.cell? ⟨gR, 8, none⟩ = some (.int .i64 0) := HG7.out.1.cell_ rfl
  have c7 : w7.cell? ⟨g, 7, none⟩ = some (.string T6) := (HC7.out.2 6 (by decide)).1
  have y7 : w7.frozen? ⟨g, 7, none⟩ = false := (HC7.out.2 6 (by decide)).2
  have hgne2 : g ≠ gR := fun h => hgne h.symm
  go_upto_region 18 with fail
  have HC8 := Lib.hid (show WRow (w7.setCell ⟨g, 7, none⟩ (.string (T6 ++ ⟨#[119]⟩))) g [f0, f1, lu, f3, lm, f5, (T6 ++ ⟨#[119]⟩).data.toList, f7, f8] from HC7.out.set_ 6 (by decide) (T6 ++ ⟨#[119]⟩).data.toList)
  have HG8 := Lib.hid (show Blk (w7.setCell ⟨g, 7, none⟩ (.string (T6 ++ ⟨#[119]⟩))) gR 29 #[.string sn, .int .i64 fr, .int .i64 1048576, .int .i64 ((i : Int) + 1), .int .i64 dk, .int .i64 dw, .int .i64 dd, .int .i64 hs, .int .i64 0, .int .i64 sv, .string sl] ∧ Below w.heap.size w (w7.setCell ⟨g, 7, none⟩ (.string (T6 ++ ⟨#[119]⟩))) from ⟨HG7.out.1.far hgne _, HG7.out.2.setCell hg _⟩)
  generalize w7.setCell ⟨g, 7, none⟩ (.string (T6 ++ ⟨#[119]⟩)) = w8 at *
  clear HC7 HG7 r8 c7 y7 hgne2
  go_wp2_with fail
  refine (HPa.out _ g _ lm lu HG8.out.2 HLm.out.1 HLm.out.2 HLu.out.1 HLu.out.2 HC8.out.strRow).mono ?_
  rintro e w9 ⟨rfl, hb9⟩
  have HG9 := Lib.hid (show Blk w9 gR 29 #[.string sn, .int .i64 fr, .int .i64 1048576, .int .i64 ((i : Int) + 1), .int .i64 dk, .int .i64 dw, .int .i64 dd, .int .i64 hs, .int .i64 0, .int .i64 sv, .string sl] ∧ Below w.heap.size w w9 from ⟨HG8.out.1.below hb9 HG8.out.1.lt, HG8.out.2.trans (hb9.mono HG8.out.2.size)⟩)
  clear HG8 HC8 hb9 HPa HLm
  have u0 : w9.cell? ⟨gR, 0, none⟩ = some (.string sn) := HG9.out.1.cell_ rfl
  have u1 : w9.cell? ⟨gR, 1, none⟩ = some (.int .i64 fr) := HG9.out.1.cell_ rfl
  have u2 : w9.cell? ⟨gR, 2, none⟩ = some (.int .i64 1048576) := HG9.out.1.cell_ rfl
  have u3 : w9.cell? ⟨gR, 3, none⟩ = some (.int .i64 ((i : Int) + 1)) := HG9.out.1.cell_ rfl
  have u4 : w9.cell? ⟨gR, 4, none⟩ = some (.int .i64 dk) := HG9.out.1.cell_ rfl
  have u5 : w9.cell? ⟨gR, 5, none⟩ = some (.int .i64 dw) := HG9.out.1.cell_ rfl
  have u6 : w9.cell? ⟨gR, 6, none⟩ = some (.int .i64 dd) := HG9.out.1.cell_ rfl
  have u7 : w9.cell? ⟨gR, 7, none⟩ = some (.int .i64 hs) := HG9.out.1.cell_ rfl
  have u8 : w9.cell? ⟨gR, 8, none⟩ = some (.int .i64 0) := HG9.out.1.cell_ rfl
  have u9 : w9.cell? ⟨gR, 9, none⟩ = some (.int .i64 sv) := HG9.out.1.cell_ rfl
  have u10 : w9.cell? ⟨gR, 10, none⟩ = some (.string sl) := HG9.out.1.cell_ rfl
  have hlR9 := HG9.out.1.lt
  go_wp2_with fail
  refine (HW.out _ (rbelow_alloc HG9.out.2 _)).mono ?_
  rintro e w10 ⟨rfl, hb10⟩
  have HZ := Lib.hid (show Below w.heap.size w w10 from (rbelow_alloc HG9.out.2 _).trans (hb10.mono (rbelow_alloc HG9.out.2 _).size))
  clear hb10 HG9
  go_wp2_with fail
  go_ret
  exact ⟨rfl, HZ.out⟩

set_option maxRecDepth 100000 in
set_option maxHeartbeats 2000000 in
theorem rw_21 (D : Array Value) (sn sl : ByteArray) (fr dk dw dd hs sv : Int) (T T6 : ByteArray) (f0 f1 f2 f3 f4 f5 f7 f8 : List UInt8) (bt x : Nat) (i : Nat) (sM : ByteArray) (w : World) (hi12 : i < 12) (hbt : bt < 65536) (hx : x < 256) (hD : (Tryz.prog.info? 41).map (·.size) = some D.size)
    (HM : Hid (∀ W, Calls Tryz.prog 15 #[.agg D] W fun e w' => e = .returned (.agg #[.string sn, .int .i64 fr, .int .i64 1048576, .int .i64 ((i : Int) + 1), .int .i64 dk, .int .i64 dw, .int .i64 dd, .int .i64 hs, .int .i64 1, .int .i64 sv, .string sl]) ∧ Below W.heap.size W w'))
    (HP : Hid (∀ W, Below w.heap.size w W → Calls Tryz.prog 13 #[.agg #[.string sn, .int .i64 fr, .int .i64 1048576, .int .i64 ((i : Int) + 1), .int .i64 dk, .int .i64 dw, .int .i64 dd, .int .i64 hs, .int .i64 1, .int .i64 sv, .string sl]] W fun e w' => e = .returned (.tuple #[.string T, .int .i64 0]) ∧ Below W.heap.size W w'))
    (HWo : Hid (∀ W, Below w.heap.size w W → Calls Tryz.prog 16 #[.string T] W fun e w' => (∃ g cap, e = .returned (.slice (some ⟨g, 0, none⟩) 10 cap) ∧ 10 ≤ cap ∧ W.heap.size ≤ g ∧ Hid (WRow w' g [f0, f1, f2, f3, f4, f5, T6.data.toList, f7, f8])) ∧ Below W.heap.size W w'))
    (hcM : ∀ W : World, (W.alloc (.cells #[.string ⟨#[74, 97, 110, 117, 97, 114, 121]⟩, .string ⟨#[70, 101, 98, 114, 117, 97, 114, 121]⟩, .string ⟨#[77, 97, 114, 99, 104]⟩, .string ⟨#[65, 112, 114, 105, 108]⟩, .string ⟨#[77, 97, 121]⟩, .string ⟨#[74, 117, 110, 101]⟩, .string ⟨#[74, 117, 108, 121]⟩, .string ⟨#[65, 117, 103, 117, 115, 116]⟩, .string ⟨#[83, 101, 112, 116, 101, 109, 98, 101, 114]⟩, .string ⟨#[79, 99, 116, 111, 98, 101, 114]⟩, .string ⟨#[78, 111, 118, 101, 109, 98, 101, 114]⟩, .string ⟨#[68, 101, 99, 101, 109, 98, 101, 114]⟩] 9)).cell? ⟨W.heap.size, i, none⟩ = some (.string sM))
    (HTm : Hid (∀ W, Calls Tryz.prog 17 #[.string sM, .int .u16 (bt : Int)] W fun e w' => (∃ l : List UInt8, e = .returned (.string ⟨l.toArray⟩) ∧ Hid (wordR monthL 1 l = ((i : Int) + 1, 0) ∧ l.length ≤ 30)) ∧ Below W.heap.size W w'))
    (HW : Hid (∀ W, Below w.heap.size w W → Calls Tryz.prog 10 #[] W fun e w' => e = .returned (.bool true) ∧ Below W.heap.size W w')) (q : Nat) (hq4 : q < 4) (hqI : (x : Int) / 2 % 4 = (q : Int)) (sq : ByteArray) (hcq : ∀ W : World, (W.alloc (.cells #[.string ⟨#[109, 97]⟩, .string ⟨#[109, 97, 120]⟩, .string ⟨#[109, 97, 120, 105]⟩, .string ⟨#[109, 97, 120, 105, 109, 117, 109]⟩] 9)).cell? ⟨W.heap.size, q, none⟩ = some (.string sq)) (HTq : Hid (∀ W, Calls Tryz.prog 17 #[.string sq, .int .u16 (bt : Int)] W fun e w' => (∃ l : List UInt8, e = .returned (.string ⟨l.toArray⟩) ∧ Hid (untilR l fr = (1048576, 0) ∧ l.length ≤ 30)) ∧ Below W.heap.size W w')) (hft : ((1048576 : Int) == fr) = false)
    (HPa : Hid (∀ W g cap (lm : List UInt8) (lu : List UInt8), Below w.heap.size w W → wordR monthL 1 lm = ((i : Int) + 1, 0) → lm.length ≤ 30 → untilR lu fr = (1048576, 0) → lu.length ≤ 30 → StrRow W g 1 [f0, f1, lu, f3, lm, f5, T6.data.toList, f7, f8] → Calls Tryz.prog 11 #[.slice (some ⟨g, 1, none⟩) 9 cap] W fun e w' => e = .returned (.tuple #[.agg #[.string sn, .int .i64 fr, .int .i64 1048576, .int .i64 ((i : Int) + 1), .int .i64 dk, .int .i64 dw, .int .i64 dd, .int .i64 hs, .int .i64 1, .int .i64 sv, .string sl], .int .i64 0]) ∧ Below W.heap.size W w')) :
    Calls Tryz.prog 7 #[.agg D, .int .u16 (bt : Int), .int .u8 (x : Int)] w fun e w' => e = .returned (.bool true) ∧ Below w.heap.size w w' := by
  have hi0 : (0 : Int) ≤ (i : Int) := by omega
  have hi1 : (i : Int) < 12 := by omega
  go_enter Tryz.func7, Tryz.ntmps7
  go_wp2_with (first | (refine wpList_load_row rfl 41 (.tmp 3) rfl w.heap.size rfl 41 D (0, 0) _ (Blk.new _ _ _) Tryz.underlying41 rfl hD ?_) | fail)
  refine (HM.out _).mono ?_
  rintro e w1 ⟨rfl, hb1⟩
  have HB := Lib.hid (show Below w.heap.size w w1 from ((Below.refl _ _).alloc (Nat.le_refl _) _).trans (hb1.mono (by simp)))
  clear hb1
  go_upto_region 2 with fail
  have HG := Lib.hid (And.intro (Blk.new' w1 29 #[.string sn, .int .i64 fr, .int .i64 1048576, .int .i64 ((i : Int) + 1), .int .i64 dk, .int .i64 dw, .int .i64 dd, .int .i64 hs, .int .i64 1, .int .i64 sv, .string sl] rfl) (HB.out.alloc HB.out.size (.cells #[.string sn, .int .i64 fr, .int .i64 1048576, .int .i64 ((i : Int) + 1), .int .i64 dk, .int .i64 dw, .int .i64 dd, .int .i64 hs, .int .i64 1, .int .i64 sv, .string sl] 29)))
  generalize w1.alloc (.cells #[.string sn, .int .i64 fr, .int .i64 1048576, .int .i64 ((i : Int) + 1), .int .i64 dk, .int .i64 dw, .int .i64 dd, .int .i64 hs, .int .i64 1, .int .i64 sv, .string sl] 29) = w2 at *
  have hgR : w.heap.size ≤ w1.heap.size := HB.out.size
  clear HB HM hD
  generalize w1.heap.size = gR at *
  go_wp2_with (first | (refine wpList_load_row rfl 29 (.tmp 7) rfl gR rfl 29 #[.string sn, .int .i64 fr, .int .i64 1048576, .int .i64 ((i : Int) + 1), .int .i64 dk, .int .i64 dw, .int .i64 dd, .int .i64 hs, .int .i64 1, .int .i64 sv, .string sl] (0, 0) _ HG.out.1 Tryz.underlying29 rfl infoRule ?_) | fail)
  refine (HP.out _ HG.out.2).mono ?_
  rintro e w3 ⟨rfl, hb3⟩
  have HG3 := Lib.hid (show Blk w3 gR 29 #[.string sn, .int .i64 fr, .int .i64 1048576, .int .i64 ((i : Int) + 1), .int .i64 dk, .int .i64 dw, .int .i64 dd, .int .i64 hs, .int .i64 1, .int .i64 sv, .string sl] ∧ Below w.heap.size w w3 from ⟨HG.out.1.below hb3 HG.out.1.lt, HG.out.2.trans (hb3.mono HG.out.2.size)⟩)
  clear HG hb3 HP
  go_wp2_with fail
  refine (HWo.out _ HG3.out.2).mono ?_
  rintro e w4 ⟨⟨g, cap, rfl, hcap, hgg, HC⟩, hb4⟩
  have HG4 := Lib.hid (show Blk w4 gR 29 #[.string sn, .int .i64 fr, .int .i64 1048576, .int .i64 ((i : Int) + 1), .int .i64 dk, .int .i64 dw, .int .i64 dd, .int .i64 hs, .int .i64 1, .int .i64 sv, .string sl] ∧ Below w.heap.size w w4 from ⟨HG3.out.1.below hb4 HG3.out.1.lt, HG3.out.2.trans (hb4.mono HG3.out.2.size)⟩)
  have hgne : gR ≠ g := by have := HG3.out.1.lt; omega
  have hg : w.heap.size ≤ g := Nat.le_trans HG3.out.2.size hgg
  clear HG3 hb4 HWo hgg
  have hcap1 : ¬ cap = 1 := by omega
  have hcap2 : (10 : Int) ≤ (cap : Int) := by omega
  have m3 : w4.cell? ⟨gR, 3, none⟩ = some (.int .i64 ((i : Int) + 1)) := HG4.out.1.cell_ rfl
  have hlR := HG4.out.1.lt
  go_wp2_with fail
  refine (HTm.out _).mono ?_
  rintro e w5 ⟨⟨lm, rfl, HLm⟩, hb5⟩
  have HC5 := Lib.hid (show WRow w5 g [f0, f1, f2, f3, f4, f5, T6.data.toList, f7, f8] from (HC.out.alloc _).below hb5)
  have HG5 := Lib.hid (show Blk w5 gR 29 #[.string sn, .int .i64 fr, .int .i64 1048576, .int .i64 ((i : Int) + 1), .int .i64 dk, .int .i64 dw, .int .i64 dd, .int .i64 hs, .int .i64 1, .int .i64 sv, .string sl] ∧ Below w.heap.size w w5 from ⟨(HG4.out.1.alloc _).below hb5 (HG4.out.1.alloc _).lt, (rbelow_alloc HG4.out.2 _).trans (hb5.mono (rbelow_alloc HG4.out.2 _).size)⟩)
  clear HC HG4 hb5 HTm m3 hlR hcM
  have c5 : w5.cell? ⟨g, 5, none⟩ = some (.string ⟨f4.toArray⟩) := (HC5.out.2 4 (by decide)).1
  have y5 : w5.frozen? ⟨g, 5, none⟩ = false := (HC5.out.2 4 (by decide)).2
  go_upto_region 8 with fail
  have HC6 := Lib.hid (show WRow (w5.setCell ⟨g, 5, none⟩ (.string ⟨lm.toArray⟩)) g [f0, f1, f2, f3, lm, f5, T6.data.toList, f7, f8] from HC5.out.set_ 4 (by decide) lm)
  have HG6 := Lib.hid (show Blk (w5.setCell ⟨g, 5, none⟩ (.string ⟨lm.toArray⟩)) gR 29 #[.string sn, .int .i64 fr, .int .i64 1048576, .int .i64 ((i : Int) + 1), .int .i64 dk, .int .i64 dw, .int .i64 dd, .int .i64 hs, .int .i64 1, .int .i64 sv, .string sl] ∧ Below w.heap.size w (w5.setCell ⟨g, 5, none⟩ (.string ⟨lm.toArray⟩)) from ⟨HG5.out.1.far hgne _, HG5.out.2.setCell hg _⟩)
  generalize w5.setCell ⟨g, 5, none⟩ (.string ⟨lm.toArray⟩) = w6 at *
  clear HC5 HG5 c5 y5
  have r1 : w6.cell? ⟨gR, 1, none⟩ = some (.int .i64 fr) := HG6.out.1.cell_ rfl
  have r2 : w6.cell? ⟨gR, 2, none⟩ = some (.int .i64 1048576) := HG6.out.1.cell_ rfl
  have hlR := HG6.out.1.lt
  have hq0 : (0 : Int) ≤ (q : Int) := by omega
  have hq1 : (q : Int) < 4 := by omega
  go_wp2_with fail
  refine (HTq.out _).mono ?_
  rintro e wq ⟨⟨lu, rfl, HLu⟩, hbq⟩
  have HCq := Lib.hid (show WRow wq g [f0, f1, f2, f3, lm, f5, T6.data.toList, f7, f8] from (HC6.out.alloc _).below hbq)
  have HGq := Lib.hid (show Blk wq gR 29 #[.string sn, .int .i64 fr, .int .i64 1048576, .int .i64 ((i : Int) + 1), .int .i64 dk, .int .i64 dw, .int .i64 dd, .int .i64 hs, .int .i64 1, .int .i64 sv, .string sl] ∧ Below w.heap.size w wq from ⟨(HG6.out.1.alloc _).below hbq (HG6.out.1.alloc _).lt, (rbelow_alloc HG6.out.2 _).trans (hbq.mono (rbelow_alloc HG6.out.2 _).size)⟩)
  clear HC6 HG6 hbq HTq r1 r2 hlR hcq hq0 hq1
  have c3 : wq.cell? ⟨g, 3, none⟩ = some (.string ⟨f2.toArray⟩) := (HCq.out.2 2 (by decide)).1
  have y3 : wq.frozen? ⟨g, 3, none⟩ = false := (HCq.out.2 2 (by decide)).2
  go_upto_region 14 with fail
  have HC7 := Lib.hid (show WRow (wq.setCell ⟨g, 3, none⟩ (.string ⟨lu.toArray⟩)) g [f0, f1, lu, f3, lm, f5, T6.data.toList, f7, f8] from HCq.out.set_ 2 (by decide) lu)
  have HG7 := Lib.hid (show Blk (wq.setCell ⟨g, 3, none⟩ (.string ⟨lu.toArray⟩)) gR 29 #[.string sn, .int .i64 fr, .int .i64 1048576, .int .i64 ((i : Int) + 1), .int .i64 dk, .int .i64 dw, .int .i64 dd, .int .i64 hs, .int .i64 1, .int .i64 sv, .string sl] ∧ Below w.heap.size w (wq.setCell ⟨g, 3, none⟩ (.string ⟨lu.toArray⟩)) from ⟨HGq.out.1.far hgne _, HGq.out.2.setCell hg _⟩)
  generalize wq.setCell ⟨g, 3, none⟩ (.string ⟨lu.toArray⟩) = w7 at *
  clear HCq HGq c3 y3
  have r8 : w7.cell? ⟨gR, 8, none⟩ = some (.int .i64 1) := HG7.out.1.cell_ rfl
  have c7 : w7.cell? ⟨g, 7, none⟩ = some (.string T6) := (HC7.out.2 6 (by decide)).1
  have y7 : w7.frozen? ⟨g, 7, none⟩ = false := (HC7.out.2 6 (by decide)).2
  go_upto_region 18 with fail
  have HC8 := HC7
  have HG8 := HG7
  clear HC7 HG7 r8 c7 y7
  obtain ⟨w8, rfl⟩ : ∃ w8, w8 = w7 := ⟨_, rfl⟩
  go_wp2_with fail
  refine (HPa.out _ g _ lm lu HG8.out.2 HLm.out.1 HLm.out.2 HLu.out.1 HLu.out.2 HC8.out.strRow).mono ?_
  rintro e w9 ⟨rfl, hb9⟩
  have HG9 := Lib.hid (show Blk w9 gR 29 #[.string sn, .int .i64 fr, .int .i64 1048576, .int .i64 ((i : Int) + 1), .int .i64 dk, .int .i64 dw, .int .i64 dd, .int .i64 hs, .int .i64 1, .int .i64 sv, .string sl] ∧ Below w.heap.size w w9 from ⟨HG8.out.1.below hb9 HG8.out.1.lt, HG8.out.2.trans (hb9.mono HG8.out.2.size)⟩)
  clear HG8 HC8 hb9 HPa HLm
  have u0 : w9.cell? ⟨gR, 0, none⟩ = some (.string sn) := HG9.out.1.cell_ rfl
  have u1 : w9.cell? ⟨gR, 1, none⟩ = some (.int .i64 fr) := HG9.out.1.cell_ rfl
  have u2 : w9.cell? ⟨gR, 2, none⟩ = some (.int .i64 1048576) := HG9.out.1.cell_ rfl
  have u3 : w9.cell? ⟨gR, 3, none⟩ = some (.int .i64 ((i : Int) + 1)) := HG9.out.1.cell_ rfl
  have u4 : w9.cell? ⟨gR, 4, none⟩ = some (.int .i64 dk) := HG9.out.1.cell_ rfl
  have u5 : w9.cell? ⟨gR, 5, none⟩ = some (.int .i64 dw) := HG9.out.1.cell_ rfl
  have u6 : w9.cell? ⟨gR, 6, none⟩ = some (.int .i64 dd) := HG9.out.1.cell_ rfl
  have u7 : w9.cell? ⟨gR, 7, none⟩ = some (.int .i64 hs) := HG9.out.1.cell_ rfl
  have u8 : w9.cell? ⟨gR, 8, none⟩ = some (.int .i64 1) := HG9.out.1.cell_ rfl
  have u9 : w9.cell? ⟨gR, 9, none⟩ = some (.int .i64 sv) := HG9.out.1.cell_ rfl
  have u10 : w9.cell? ⟨gR, 10, none⟩ = some (.string sl) := HG9.out.1.cell_ rfl
  have hlR9 := HG9.out.1.lt
  go_wp2_with fail
  refine (HW.out _ (rbelow_alloc HG9.out.2 _)).mono ?_
  rintro e w10 ⟨rfl, hb10⟩
  have HZ := Lib.hid (show Below w.heap.size w w10 from (rbelow_alloc HG9.out.2 _).trans (hb10.mono (rbelow_alloc HG9.out.2 _).size))
  clear hb10 HG9
  go_wp2_with fail
  go_ret
  exact ⟨rfl, HZ.out⟩

set_option maxRecDepth 100000 in
set_option maxHeartbeats 2000000 in
theorem rw_22 (D : Array Value) (sn sl : ByteArray) (fr dk dw dd hs sv : Int) (T T6 : ByteArray) (f0 f1 f2 f3 f4 f5 f7 f8 : List UInt8) (bt x : Nat) (i : Nat) (sM : ByteArray) (w : World) (hi12 : i < 12) (hbt : bt < 65536) (hx : x < 256) (hD : (Tryz.prog.info? 41).map (·.size) = some D.size)
    (HM : Hid (∀ W, Calls Tryz.prog 15 #[.agg D] W fun e w' => e = .returned (.agg #[.string sn, .int .i64 fr, .int .i64 1048576, .int .i64 ((i : Int) + 1), .int .i64 dk, .int .i64 dw, .int .i64 dd, .int .i64 hs, .int .i64 2, .int .i64 sv, .string sl]) ∧ Below W.heap.size W w'))
    (HP : Hid (∀ W, Below w.heap.size w W → Calls Tryz.prog 13 #[.agg #[.string sn, .int .i64 fr, .int .i64 1048576, .int .i64 ((i : Int) + 1), .int .i64 dk, .int .i64 dw, .int .i64 dd, .int .i64 hs, .int .i64 2, .int .i64 sv, .string sl]] W fun e w' => e = .returned (.tuple #[.string T, .int .i64 0]) ∧ Below W.heap.size W w'))
    (HWo : Hid (∀ W, Below w.heap.size w W → Calls Tryz.prog 16 #[.string T] W fun e w' => (∃ g cap, e = .returned (.slice (some ⟨g, 0, none⟩) 10 cap) ∧ 10 ≤ cap ∧ W.heap.size ≤ g ∧ Hid (WRow w' g [f0, f1, f2, f3, f4, f5, T6.data.toList, f7, f8])) ∧ Below W.heap.size W w'))
    (hcM : ∀ W : World, (W.alloc (.cells #[.string ⟨#[74, 97, 110, 117, 97, 114, 121]⟩, .string ⟨#[70, 101, 98, 114, 117, 97, 114, 121]⟩, .string ⟨#[77, 97, 114, 99, 104]⟩, .string ⟨#[65, 112, 114, 105, 108]⟩, .string ⟨#[77, 97, 121]⟩, .string ⟨#[74, 117, 110, 101]⟩, .string ⟨#[74, 117, 108, 121]⟩, .string ⟨#[65, 117, 103, 117, 115, 116]⟩, .string ⟨#[83, 101, 112, 116, 101, 109, 98, 101, 114]⟩, .string ⟨#[79, 99, 116, 111, 98, 101, 114]⟩, .string ⟨#[78, 111, 118, 101, 109, 98, 101, 114]⟩, .string ⟨#[68, 101, 99, 101, 109, 98, 101, 114]⟩] 9)).cell? ⟨W.heap.size, i, none⟩ = some (.string sM))
    (HTm : Hid (∀ W, Calls Tryz.prog 17 #[.string sM, .int .u16 (bt : Int)] W fun e w' => (∃ l : List UInt8, e = .returned (.string ⟨l.toArray⟩) ∧ Hid (wordR monthL 1 l = ((i : Int) + 1, 0) ∧ l.length ≤ 30)) ∧ Below W.heap.size W w'))
    (HW : Hid (∀ W, Below w.heap.size w W → Calls Tryz.prog 10 #[] W fun e w' => e = .returned (.bool true) ∧ Below W.heap.size W w')) (q : Nat) (hq4 : q < 4) (hqI : (x : Int) / 2 % 4 = (q : Int)) (sq : ByteArray) (hcq : ∀ W : World, (W.alloc (.cells #[.string ⟨#[109, 97]⟩, .string ⟨#[109, 97, 120]⟩, .string ⟨#[109, 97, 120, 105]⟩, .string ⟨#[109, 97, 120, 105, 109, 117, 109]⟩] 9)).cell? ⟨W.heap.size, q, none⟩ = some (.string sq)) (HTq : Hid (∀ W, Calls Tryz.prog 17 #[.string sq, .int .u16 (bt : Int)] W fun e w' => (∃ l : List UInt8, e = .returned (.string ⟨l.toArray⟩) ∧ Hid (untilR l fr = (1048576, 0) ∧ l.length ≤ 30)) ∧ Below W.heap.size W w')) (hft : ((1048576 : Int) == fr) = false) (p : Nat) (hp3 : p < 3) (hpI : (x : Int) % 3 = (p : Int)) (sp : ByteArray) (Hcp : Hid (∀ (W : World) (g : Nat), Blk W g 9 #[.string ⟨#[103]⟩, .string ⟨#[122]⟩, .string ⟨#[117]⟩] → W.cell? ⟨g, p, none⟩ = some (.string sp))) (hsp : sp.size ≤ 1) (hT6a : 1 ≤ T6.size) (hT6b : T6.size ≤ 30)
    (HPa : Hid (∀ W g cap (lm : List UInt8) (lu : List UInt8), Below w.heap.size w W → wordR monthL 1 lm = ((i : Int) + 1, 0) → lm.length ≤ 30 → untilR lu fr = (1048576, 0) → lu.length ≤ 30 → StrRow W g 1 [f0, f1, lu, f3, lm, f5, (T6.extract 0 (T6.size - 1) ++ sp).data.toList, f7, f8] → Calls Tryz.prog 11 #[.slice (some ⟨g, 1, none⟩) 9 cap] W fun e w' => e = .returned (.tuple #[.agg #[.string sn, .int .i64 fr, .int .i64 1048576, .int .i64 ((i : Int) + 1), .int .i64 dk, .int .i64 dw, .int .i64 dd, .int .i64 hs, .int .i64 2, .int .i64 sv, .string sl], .int .i64 0]) ∧ Below W.heap.size W w')) :
    Calls Tryz.prog 7 #[.agg D, .int .u16 (bt : Int), .int .u8 (x : Int)] w fun e w' => e = .returned (.bool true) ∧ Below w.heap.size w w' := by
  have hi0 : (0 : Int) ≤ (i : Int) := by omega
  have hi1 : (i : Int) < 12 := by omega
  go_enter Tryz.func7, Tryz.ntmps7
  go_wp2_with (first | (refine wpList_load_row rfl 41 (.tmp 3) rfl w.heap.size rfl 41 D (0, 0) _ (Blk.new _ _ _) Tryz.underlying41 rfl hD ?_) | fail)
  refine (HM.out _).mono ?_
  rintro e w1 ⟨rfl, hb1⟩
  have HB := Lib.hid (show Below w.heap.size w w1 from ((Below.refl _ _).alloc (Nat.le_refl _) _).trans (hb1.mono (by simp)))
  clear hb1
  go_upto_region 2 with fail
  have HG := Lib.hid (And.intro (Blk.new' w1 29 #[.string sn, .int .i64 fr, .int .i64 1048576, .int .i64 ((i : Int) + 1), .int .i64 dk, .int .i64 dw, .int .i64 dd, .int .i64 hs, .int .i64 2, .int .i64 sv, .string sl] rfl) (HB.out.alloc HB.out.size (.cells #[.string sn, .int .i64 fr, .int .i64 1048576, .int .i64 ((i : Int) + 1), .int .i64 dk, .int .i64 dw, .int .i64 dd, .int .i64 hs, .int .i64 2, .int .i64 sv, .string sl] 29)))
  generalize w1.alloc (.cells #[.string sn, .int .i64 fr, .int .i64 1048576, .int .i64 ((i : Int) + 1), .int .i64 dk, .int .i64 dw, .int .i64 dd, .int .i64 hs, .int .i64 2, .int .i64 sv, .string sl] 29) = w2 at *
  have hgR : w.heap.size ≤ w1.heap.size := HB.out.size
  clear HB HM hD
  generalize w1.heap.size = gR at *
  go_wp2_with (first | (refine wpList_load_row rfl 29 (.tmp 7) rfl gR rfl 29 #[.string sn, .int .i64 fr, .int .i64 1048576, .int .i64 ((i : Int) + 1), .int .i64 dk, .int .i64 dw, .int .i64 dd, .int .i64 hs, .int .i64 2, .int .i64 sv, .string sl] (0, 0) _ HG.out.1 Tryz.underlying29 rfl infoRule ?_) | fail)
  refine (HP.out _ HG.out.2).mono ?_
  rintro e w3 ⟨rfl, hb3⟩
  have HG3 := Lib.hid (show Blk w3 gR 29 #[.string sn, .int .i64 fr, .int .i64 1048576, .int .i64 ((i : Int) + 1), .int .i64 dk, .int .i64 dw, .int .i64 dd, .int .i64 hs, .int .i64 2, .int .i64 sv, .string sl] ∧ Below w.heap.size w w3 from ⟨HG.out.1.below hb3 HG.out.1.lt, HG.out.2.trans (hb3.mono HG.out.2.size)⟩)
  clear HG hb3 HP
  go_wp2_with fail
  refine (HWo.out _ HG3.out.2).mono ?_
  rintro e w4 ⟨⟨g, cap, rfl, hcap, hgg, HC⟩, hb4⟩
  have HG4 := Lib.hid (show Blk w4 gR 29 #[.string sn, .int .i64 fr, .int .i64 1048576, .int .i64 ((i : Int) + 1), .int .i64 dk, .int .i64 dw, .int .i64 dd, .int .i64 hs, .int .i64 2, .int .i64 sv, .string sl] ∧ Below w.heap.size w w4 from ⟨HG3.out.1.below hb4 HG3.out.1.lt, HG3.out.2.trans (hb4.mono HG3.out.2.size)⟩)
  have hgne : gR ≠ g := by have := HG3.out.1.lt; omega
  have hg : w.heap.size ≤ g := Nat.le_trans HG3.out.2.size hgg
  clear HG3 hb4 HWo hgg
  have hcap1 : ¬ cap = 1 := by omega
  have hcap2 : (10 : Int) ≤ (cap : Int) := by omega
  have m3 : w4.cell? ⟨gR, 3, none⟩ = some (.int .i64 ((i : Int) + 1)) := HG4.out.1.cell_ rfl
  have hlR := HG4.out.1.lt
  go_wp2_with fail
  refine (HTm.out _).mono ?_
  rintro e w5 ⟨⟨lm, rfl, HLm⟩, hb5⟩
  have HC5 := Lib.hid (show WRow w5 g [f0, f1, f2, f3, f4, f5, T6.data.toList, f7, f8] from (HC.out.alloc _).below hb5)
  have HG5 := Lib.hid (show Blk w5 gR 29 #[.string sn, .int .i64 fr, .int .i64 1048576, .int .i64 ((i : Int) + 1), .int .i64 dk, .int .i64 dw, .int .i64 dd, .int .i64 hs, .int .i64 2, .int .i64 sv, .string sl] ∧ Below w.heap.size w w5 from ⟨(HG4.out.1.alloc _).below hb5 (HG4.out.1.alloc _).lt, (rbelow_alloc HG4.out.2 _).trans (hb5.mono (rbelow_alloc HG4.out.2 _).size)⟩)
  clear HC HG4 hb5 HTm m3 hlR hcM
  have c5 : w5.cell? ⟨g, 5, none⟩ = some (.string ⟨f4.toArray⟩) := (HC5.out.2 4 (by decide)).1
  have y5 : w5.frozen? ⟨g, 5, none⟩ = false := (HC5.out.2 4 (by decide)).2
  go_upto_region 8 with fail
  have HC6 := Lib.hid (show WRow (w5.setCell ⟨g, 5, none⟩ (.string ⟨lm.toArray⟩)) g [f0, f1, f2, f3, lm, f5, T6.data.toList, f7, f8] from HC5.out.set_ 4 (by decide) lm)
  have HG6 := Lib.hid (show Blk (w5.setCell ⟨g, 5, none⟩ (.string ⟨lm.toArray⟩)) gR 29 #[.string sn, .int .i64 fr, .int .i64 1048576, .int .i64 ((i : Int) + 1), .int .i64 dk, .int .i64 dw, .int .i64 dd, .int .i64 hs, .int .i64 2, .int .i64 sv, .string sl] ∧ Below w.heap.size w (w5.setCell ⟨g, 5, none⟩ (.string ⟨lm.toArray⟩)) from ⟨HG5.out.1.far hgne _, HG5.out.2.setCell hg _⟩)
  generalize w5.setCell ⟨g, 5, none⟩ (.string ⟨lm.toArray⟩) = w6 at *
  clear HC5 HG5 c5 y5
  have r1 : w6.cell? ⟨gR, 1, none⟩ = some (.int .i64 fr) := HG6.out.1.cell_ rfl
  have r2 : w6.cell? ⟨gR, 2, none⟩ = some (.int .i64 1048576) := HG6.out.1.cell_ rfl
  have hlR := HG6.out.1.lt
  have hq0 : (0 : Int) ≤ (q : Int) := by omega
  have hq1 : (q : Int) < 4 := by omega
  go_wp2_with fail
  refine (HTq.out _).mono ?_
  rintro e wq ⟨⟨lu, rfl, HLu⟩, hbq⟩
  have HCq := Lib.hid (show WRow wq g [f0, f1, f2, f3, lm, f5, T6.data.toList, f7, f8] from (HC6.out.alloc _).below hbq)
  have HGq := Lib.hid (show Blk wq gR 29 #[.string sn, .int .i64 fr, .int .i64 1048576, .int .i64 ((i : Int) + 1), .int .i64 dk, .int .i64 dw, .int .i64 dd, .int .i64 hs, .int .i64 2, .int .i64 sv, .string sl] ∧ Below w.heap.size w wq from ⟨(HG6.out.1.alloc _).below hbq (HG6.out.1.alloc _).lt, (rbelow_alloc HG6.out.2 _).trans (hbq.mono (rbelow_alloc HG6.out.2 _).size)⟩)
  clear HC6 HG6 hbq HTq r1 r2 hlR hcq hq0 hq1
  have c3 : wq.cell? ⟨g, 3, none⟩ = some (.string ⟨f2.toArray⟩) := (HCq.out.2 2 (by decide)).1
  have y3 : wq.frozen? ⟨g, 3, none⟩ = false := (HCq.out.2 2 (by decide)).2
  go_upto_region 14 with fail
  have HC7 := Lib.hid (show WRow (wq.setCell ⟨g, 3, none⟩ (.string ⟨lu.toArray⟩)) g [f0, f1, lu, f3, lm, f5, T6.data.toList, f7, f8] from HCq.out.set_ 2 (by decide) lu)
  have HG7 := Lib.hid (show Blk (wq.setCell ⟨g, 3, none⟩ (.string ⟨lu.toArray⟩)) gR 29 #[.string sn, .int .i64 fr, .int .i64 1048576, .int .i64 ((i : Int) + 1), .int .i64 dk, .int .i64 dw, .int .i64 dd, .int .i64 hs, .int .i64 2, .int .i64 sv, .string sl] ∧ Below w.heap.size w (wq.setCell ⟨g, 3, none⟩ (.string ⟨lu.toArray⟩)) from ⟨HGq.out.1.far hgne _, HGq.out.2.setCell hg _⟩)
  generalize wq.setCell ⟨g, 3, none⟩ (.string ⟨lu.toArray⟩) = w7 at *
  clear HCq HGq c3 y3
  have r8 : w7.cell? ⟨gR, 8, none⟩ = some (.int .i64 2) := HG7.out.1.cell_ rfl
  have c7 : w7.cell? ⟨g, 7, none⟩ = some (.string T6) := (HC7.out.2 6 (by decide)).1
  have y7 : w7.frozen? ⟨g, 7, none⟩ = false := (HC7.out.2 6 (by decide)).2
  have hp0 : (0 : Int) ≤ (p : Int) := by omega
  have hp1 : (p : Int) < 3 := by omega
  have hT6c : decide (0 < T6.size) = true := by simp; omega
  have hT6w : IntKind.i64.wrap ((T6.size : Int) - 1) = (T6.size : Int) - 1 := IntWalk.i64_in _ (by omega)
  have hT6n : ((T6.size : Int) - 1).toNat = T6.size - 1 := by omega
  have hT6p : (0 : Int) ≤ (T6.size : Int) - 1 := by omega
  have hT6r : (1 : Int) ≤ (T6.size : Int) := by omega
  have hT6s : ¬ 9223372036854775807 < T6.size - 1 + sp.size := by omega
  have hT6q : (T6.size : Int) - 1 ≤ (T6.size : Int) := by omega
  have htm : (x : Int).tmod 3 = (p : Int) := by rw [Int.tmod_eq_emod_of_nonneg (by omega)]; exact hpI
  go_upto_region 17 with fail
  refine wp_region_rels 17 [[], [], [], [], [], [], [], [], [], [], [], [], [], [10], [13], [], []] [Form.val, Form.val, Form.val, Form.val, Form.val, Form.val, Form.val, Form.val, Form.val, Form.val, Form.rel (TabIs3 #[.string ⟨#[103]⟩, .string ⟨#[122]⟩, .string ⟨#[117]⟩]), Form.val, Form.val, Form.rel (PtrIs3 p #[.string ⟨#[103]⟩, .string ⟨#[122]⟩, .string ⟨#[117]⟩]), Form.val, Form.val, Form.val] (W2Held w g gR [f0, f1, lu, f3, lm, f5, T6.data.toList, f7, f8] #[.string sn, .int .i64 fr, .int .i64 1048576, .int .i64 ((i : Int) + 1), .int .i64 dk, .int .i64 dw, .int .i64 dd, .int .i64 hs, .int .i64 2, .int .i64 sv, .string sl]) (by kernel_rfl) (by kernel_rfl) rfl rfl (⟨HC7.out, HG7.out.1, HG7.out.2.drew⟩) (fun W W' h hb => ⟨h.1.below hb, h.2.1.below hb h.2.1.lt, h.2.2.trans (hb.mono h.2.2.size)⟩) ⟨TabIs3.lasts _, PtrIs3.lasts _ _, trivial⟩ ?_
  repeat (first | apply exSpec_rel | apply exSpec_new | apply exSpec_val)
  apply relWalk_ex rfl ?o0 (fun K hK => ?n0)
  case o0 =>
    intro W hC hF
    have c7 : W.cell? ⟨g, 7, none⟩ = some (.string T6) := (hC.1.2 6 (by decide)).1
    go_simp
    all_goals exact ⟨Below.refl _ _, rfl⟩
  case' n0 =>
    go_simp
    refine hK _ ?_
    clear hK K
  apply relWalk_ex rfl ?o1 (fun K hK => ?n1)
  case o1 =>
    intro W hC hF
    have c7 : W.cell? ⟨g, 7, none⟩ = some (.string T6) := (hC.1.2 6 (by decide)).1
    go_simp
    all_goals exact ⟨Below.refl _ _, rfl⟩
  case' n1 =>
    go_simp
    refine hK _ ?_
    clear hK K
  apply relWalk_ex rfl ?o2 (fun K hK => ?n2)
  case o2 =>
    intro W hC hF
    have c7 : W.cell? ⟨g, 7, none⟩ = some (.string T6) := (hC.1.2 6 (by decide)).1
    go_simp
    all_goals exact ⟨Below.refl _ _, rfl⟩
  case' n2 =>
    go_simp
    refine hK _ ?_
    clear hK K
  apply relWalk_ex rfl ?o3 (fun K hK => ?n3)
  case o3 =>
    intro W hC hF
    have c7 : W.cell? ⟨g, 7, none⟩ = some (.string T6) := (hC.1.2 6 (by decide)).1
    go_simp
    all_goals exact ⟨Below.refl _ _, rfl⟩
  case' n3 =>
    go_simp
    refine hK _ ?_
    clear hK K
  apply relWalk_ex rfl ?o4 (fun K hK => ?n4)
  case o4 =>
    intro W hC hF
    have c7 : W.cell? ⟨g, 7, none⟩ = some (.string T6) := (hC.1.2 6 (by decide)).1
    go_simp
    all_goals exact ⟨Below.refl _ _, rfl⟩
  case' n4 =>
    go_simp
    refine hK _ ?_
    clear hK K
  apply relWalk_ex rfl ?o5 (fun K hK => ?n5)
  case o5 =>
    intro W hC hF
    have c7 : W.cell? ⟨g, 7, none⟩ = some (.string T6) := (hC.1.2 6 (by decide)).1
    go_simp
    all_goals exact ⟨Below.refl _ _, rfl⟩
  case' n5 =>
    go_simp
    refine hK _ ?_
    clear hK K
  apply relWalk_ex rfl ?o6 (fun K hK => ?n6)
  case o6 =>
    intro W hC hF
    have c7 : W.cell? ⟨g, 7, none⟩ = some (.string T6) := (hC.1.2 6 (by decide)).1
    go_simp
    all_goals exact ⟨Below.refl _ _, rfl⟩
  case' n6 =>
    go_simp
    refine hK _ ?_
    clear hK K
  apply relWalk_ex rfl ?o7 (fun K hK => ?n7)
  case o7 =>
    intro W hC hF
    have c7 : W.cell? ⟨g, 7, none⟩ = some (.string T6) := (hC.1.2 6 (by decide)).1
    go_simp
    all_goals exact ⟨Below.refl _ _, rfl⟩
  case' n7 =>
    go_simp
    refine hK _ ?_
    clear hK K
  apply relWalk_ex rfl ?o8 (fun K hK => ?n8)
  case o8 =>
    intro W hC hF
    have c7 : W.cell? ⟨g, 7, none⟩ = some (.string T6) := (hC.1.2 6 (by decide)).1
    go_simp
    all_goals exact ⟨Below.refl _ _, rfl⟩
  case' n8 =>
    go_simp
    refine hK _ ?_
    clear hK K
  apply relWalk_ex rfl ?o9 (fun K hK => ?n9)
  case o9 =>
    intro W hC hF
    have c7 : W.cell? ⟨g, 7, none⟩ = some (.string T6) := (hC.1.2 6 (by decide)).1
    go_simp
    all_goals exact ⟨Below.refl _ _, rfl⟩
  case' n9 =>
    go_simp
    refine hK _ ?_
    clear hK K
  apply relWalk_rel rfl ?o10 (fun u10 K hK => ?n10)
  case o10 =>
    intro W hC hF
    have c7 : W.cell? ⟨g, 7, none⟩ = some (.string T6) := (hC.1.2 6 (by decide)).1
    go_simp
    all_goals exact ⟨by go_grown, _, rfl, Blk.new _ _ _⟩
  case' n10 =>
    go_simp
    refine hK _ ?_
    clear hK K
  apply relWalk_ex rfl ?o11 (fun K hK => ?n11)
  case o11 =>
    intro W hC hF
    have c7 : W.cell? ⟨g, 7, none⟩ = some (.string T6) := (hC.1.2 6 (by decide)).1
    go_simp
    all_goals exact ⟨Below.refl _ _, rfl⟩
  case' n11 =>
    go_simp
    refine hK _ ?_
    clear hK K
  apply relWalk_ex rfl ?o12 (fun K hK => ?n12)
  case o12 =>
    intro W hC hF
    have c7 : W.cell? ⟨g, 7, none⟩ = some (.string T6) := (hC.1.2 6 (by decide)).1
    go_simp
    all_goals exact ⟨Below.refl _ _, rfl⟩
  case' n12 =>
    go_simp
    refine hK _ ?_
    clear hK K
  apply relWalk_rel rfl ?o13 (fun u13 K hK => ?n13)
  case o13 =>
    intro W hC hF
    obtain ⟨⟨gz, rfl, hB⟩, -⟩ := hF
    have c7 : W.cell? ⟨g, 7, none⟩ = some (.string T6) := (hC.1.2 6 (by decide)).1
    go_simp
    all_goals exact ⟨by go_grown, gz, rfl, hB⟩
  case' n13 =>
    go_simp
    refine hK _ ?_
    clear hK K
  apply relWalk_ex rfl ?o14 (fun K hK => ?n14)
  case o14 =>
    intro W hC hF
    obtain ⟨⟨gz, rfl, hB⟩, -⟩ := hF
    have hxp : W.cell? ⟨gz, p, none⟩ = some (.string sp) := Hcp.out W gz hB
    have c7 : W.cell? ⟨g, 7, none⟩ = some (.string T6) := (hC.1.2 6 (by decide)).1
    go_simp
    all_goals exact ⟨Below.refl _ _, rfl⟩
  case' n14 =>
    go_simp
    refine hK _ ?_
    clear hK K
  apply relWalk_ex rfl ?o15 (fun K hK => ?n15)
  case o15 =>
    intro W hC hF
    have c7 : W.cell? ⟨g, 7, none⟩ = some (.string T6) := (hC.1.2 6 (by decide)).1
    go_simp
    all_goals exact ⟨Below.refl _ _, rfl⟩
  case' n15 =>
    go_simp
    refine hK _ ?_
    clear hK K
  apply relWalk_ex rfl ?o16 (fun K hK => ?n16)
  case o16 =>
    intro W hC hF
    have c7 : W.cell? ⟨g, 7, none⟩ = some (.string T6) := (hC.1.2 6 (by decide)).1
    go_simp
    all_goals exact ⟨Below.refl _ _, rfl⟩
  case' n16 =>
    go_simp
    refine hK _ ?_
    clear hK K
  apply relWalk_end
  intro W hC hF hU
  have z7 : W.cell? ⟨g, 7, none⟩ = some (.string T6) := (hC.1.2 6 (by decide)).1
  have y8 : W.frozen? ⟨g, 7, none⟩ = false := (hC.1.2 6 (by decide)).2
  have HC7b := Lib.hid hC
  clear hC hF hU HC7 HG7 r8 c7 y7
  go_upto_region 18 with fail
  have HC8 := Lib.hid (show WRow (W.setCell ⟨g, 7, none⟩ (.string (T6.extract 0 (T6.size - 1) ++ sp))) g [f0, f1, lu, f3, lm, f5, (T6.extract 0 (T6.size - 1) ++ sp).data.toList, f7, f8] from HC7b.out.1.set_ 6 (by decide) (T6.extract 0 (T6.size - 1) ++ sp).data.toList)
  have HG8 := Lib.hid (show Blk (W.setCell ⟨g, 7, none⟩ (.string (T6.extract 0 (T6.size - 1) ++ sp))) gR 29 #[.string sn, .int .i64 fr, .int .i64 1048576, .int .i64 ((i : Int) + 1), .int .i64 dk, .int .i64 dw, .int .i64 dd, .int .i64 hs, .int .i64 2, .int .i64 sv, .string sl] ∧ Below w.heap.size w (W.setCell ⟨g, 7, none⟩ (.string (T6.extract 0 (T6.size - 1) ++ sp))) from ⟨HC7b.out.2.1.far hgne _, HC7b.out.2.2.setCell hg _⟩)
  generalize W.setCell ⟨g, 7, none⟩ (.string (T6.extract 0 (T6.size - 1) ++ sp)) = w8 at *
  clear HC7b z7 y8
  go_wp2_with fail
  refine (HPa.out _ g _ lm lu HG8.out.2 HLm.out.1 HLm.out.2 HLu.out.1 HLu.out.2 HC8.out.strRow).mono ?_
  rintro e w9 ⟨rfl, hb9⟩
  have HG9 := Lib.hid (show Blk w9 gR 29 #[.string sn, .int .i64 fr, .int .i64 1048576, .int .i64 ((i : Int) + 1), .int .i64 dk, .int .i64 dw, .int .i64 dd, .int .i64 hs, .int .i64 2, .int .i64 sv, .string sl] ∧ Below w.heap.size w w9 from ⟨HG8.out.1.below hb9 HG8.out.1.lt, HG8.out.2.trans (hb9.mono HG8.out.2.size)⟩)
  clear HG8 HC8 hb9 HPa HLm
  have u0 : w9.cell? ⟨gR, 0, none⟩ = some (.string sn) := HG9.out.1.cell_ rfl
  have u1 : w9.cell? ⟨gR, 1, none⟩ = some (.int .i64 fr) := HG9.out.1.cell_ rfl
  have u2 : w9.cell? ⟨gR, 2, none⟩ = some (.int .i64 1048576) := HG9.out.1.cell_ rfl
  have u3 : w9.cell? ⟨gR, 3, none⟩ = some (.int .i64 ((i : Int) + 1)) := HG9.out.1.cell_ rfl
  have u4 : w9.cell? ⟨gR, 4, none⟩ = some (.int .i64 dk) := HG9.out.1.cell_ rfl
  have u5 : w9.cell? ⟨gR, 5, none⟩ = some (.int .i64 dw) := HG9.out.1.cell_ rfl
  have u6 : w9.cell? ⟨gR, 6, none⟩ = some (.int .i64 dd) := HG9.out.1.cell_ rfl
  have u7 : w9.cell? ⟨gR, 7, none⟩ = some (.int .i64 hs) := HG9.out.1.cell_ rfl
  have u8 : w9.cell? ⟨gR, 8, none⟩ = some (.int .i64 2) := HG9.out.1.cell_ rfl
  have u9 : w9.cell? ⟨gR, 9, none⟩ = some (.int .i64 sv) := HG9.out.1.cell_ rfl
  have u10 : w9.cell? ⟨gR, 10, none⟩ = some (.string sl) := HG9.out.1.cell_ rfl
  have hlR9 := HG9.out.1.lt
  go_wp2_with fail
  refine (HW.out _ (rbelow_alloc HG9.out.2 _)).mono ?_
  rintro e w10 ⟨rfl, hb10⟩
  have HZ := Lib.hid (show Below w.heap.size w w10 from (rbelow_alloc HG9.out.2 _).trans (hb10.mono (rbelow_alloc HG9.out.2 _).size))
  clear hb10 HG9
  go_wp2_with fail
  go_ret
  exact ⟨rfl, HZ.out⟩

set_option maxRecDepth 100000 in
set_option maxHeartbeats 2000000 in
theorem rw_30 (D : Array Value) (sn sl : ByteArray) (fr tl dk dw dd hs sv : Int) (T T6 : ByteArray) (f0 f1 f2 f3 f4 f5 f7 f8 : List UInt8) (bt x : Nat) (i : Nat) (sM : ByteArray) (w : World) (hi12 : i < 12) (hbt : bt < 65536) (hx : x < 256) (hD : (Tryz.prog.info? 41).map (·.size) = some D.size)
    (HM : Hid (∀ W, Calls Tryz.prog 15 #[.agg D] W fun e w' => e = .returned (.agg #[.string sn, .int .i64 fr, .int .i64 tl, .int .i64 ((i : Int) + 1), .int .i64 dk, .int .i64 dw, .int .i64 dd, .int .i64 hs, .int .i64 0, .int .i64 sv, .string sl]) ∧ Below W.heap.size W w'))
    (HP : Hid (∀ W, Below w.heap.size w W → Calls Tryz.prog 13 #[.agg #[.string sn, .int .i64 fr, .int .i64 tl, .int .i64 ((i : Int) + 1), .int .i64 dk, .int .i64 dw, .int .i64 dd, .int .i64 hs, .int .i64 0, .int .i64 sv, .string sl]] W fun e w' => e = .returned (.tuple #[.string T, .int .i64 0]) ∧ Below W.heap.size W w'))
    (HWo : Hid (∀ W, Below w.heap.size w W → Calls Tryz.prog 16 #[.string T] W fun e w' => (∃ g cap, e = .returned (.slice (some ⟨g, 0, none⟩) 10 cap) ∧ 10 ≤ cap ∧ W.heap.size ≤ g ∧ Hid (WRow w' g [f0, f1, f2, f3, f4, f5, T6.data.toList, f7, f8])) ∧ Below W.heap.size W w'))
    (hcM : ∀ W : World, (W.alloc (.cells #[.string ⟨#[74, 97, 110, 117, 97, 114, 121]⟩, .string ⟨#[70, 101, 98, 114, 117, 97, 114, 121]⟩, .string ⟨#[77, 97, 114, 99, 104]⟩, .string ⟨#[65, 112, 114, 105, 108]⟩, .string ⟨#[77, 97, 121]⟩, .string ⟨#[74, 117, 110, 101]⟩, .string ⟨#[74, 117, 108, 121]⟩, .string ⟨#[65, 117, 103, 117, 115, 116]⟩, .string ⟨#[83, 101, 112, 116, 101, 109, 98, 101, 114]⟩, .string ⟨#[79, 99, 116, 111, 98, 101, 114]⟩, .string ⟨#[78, 111, 118, 101, 109, 98, 101, 114]⟩, .string ⟨#[68, 101, 99, 101, 109, 98, 101, 114]⟩] 9)).cell? ⟨W.heap.size, i, none⟩ = some (.string sM))
    (HTm : Hid (∀ W, Calls Tryz.prog 17 #[.string sM, .int .u16 (bt : Int)] W fun e w' => (∃ l : List UInt8, e = .returned (.string ⟨l.toArray⟩) ∧ Hid (wordR monthL 1 l = ((i : Int) + 1, 0) ∧ l.length ≤ 30)) ∧ Below W.heap.size W w'))
    (HW : Hid (∀ W, Below w.heap.size w W → Calls Tryz.prog 10 #[] W fun e w' => e = .returned (.bool true) ∧ Below W.heap.size W w')) (hft : (tl == fr) = false) (hfm : (tl == 1048576) = false) (hT6b : T6.size ≤ 30)
    (HPa : Hid (∀ W g cap (lm : List UInt8), Below w.heap.size w W → wordR monthL 1 lm = ((i : Int) + 1, 0) → lm.length ≤ 30 → StrRow W g 1 [f0, f1, f2, f3, lm, f5, (T6 ++ ⟨#[119]⟩).data.toList, f7, f8] → Calls Tryz.prog 11 #[.slice (some ⟨g, 1, none⟩) 9 cap] W fun e w' => e = .returned (.tuple #[.agg #[.string sn, .int .i64 fr, .int .i64 tl, .int .i64 ((i : Int) + 1), .int .i64 dk, .int .i64 dw, .int .i64 dd, .int .i64 hs, .int .i64 0, .int .i64 sv, .string sl], .int .i64 0]) ∧ Below W.heap.size W w')) :
    Calls Tryz.prog 7 #[.agg D, .int .u16 (bt : Int), .int .u8 (x : Int)] w fun e w' => e = .returned (.bool true) ∧ Below w.heap.size w w' := by
  have hi0 : (0 : Int) ≤ (i : Int) := by omega
  have hi1 : (i : Int) < 12 := by omega
  go_enter Tryz.func7, Tryz.ntmps7
  go_wp2_with (first | (refine wpList_load_row rfl 41 (.tmp 3) rfl w.heap.size rfl 41 D (0, 0) _ (Blk.new _ _ _) Tryz.underlying41 rfl hD ?_) | fail)
  refine (HM.out _).mono ?_
  rintro e w1 ⟨rfl, hb1⟩
  have HB := Lib.hid (show Below w.heap.size w w1 from ((Below.refl _ _).alloc (Nat.le_refl _) _).trans (hb1.mono (by simp)))
  clear hb1
  go_upto_region 2 with fail
  have HG := Lib.hid (And.intro (Blk.new' w1 29 #[.string sn, .int .i64 fr, .int .i64 tl, .int .i64 ((i : Int) + 1), .int .i64 dk, .int .i64 dw, .int .i64 dd, .int .i64 hs, .int .i64 0, .int .i64 sv, .string sl] rfl) (HB.out.alloc HB.out.size (.cells #[.string sn, .int .i64 fr, .int .i64 tl, .int .i64 ((i : Int) + 1), .int .i64 dk, .int .i64 dw, .int .i64 dd, .int .i64 hs, .int .i64 0, .int .i64 sv, .string sl] 29)))
  generalize w1.alloc (.cells #[.string sn, .int .i64 fr, .int .i64 tl, .int .i64 ((i : Int) + 1), .int .i64 dk, .int .i64 dw, .int .i64 dd, .int .i64 hs, .int .i64 0, .int .i64 sv, .string sl] 29) = w2 at *
  have hgR : w.heap.size ≤ w1.heap.size := HB.out.size
  clear HB HM hD
  generalize w1.heap.size = gR at *
  go_wp2_with (first | (refine wpList_load_row rfl 29 (.tmp 7) rfl gR rfl 29 #[.string sn, .int .i64 fr, .int .i64 tl, .int .i64 ((i : Int) + 1), .int .i64 dk, .int .i64 dw, .int .i64 dd, .int .i64 hs, .int .i64 0, .int .i64 sv, .string sl] (0, 0) _ HG.out.1 Tryz.underlying29 rfl infoRule ?_) | fail)
  refine (HP.out _ HG.out.2).mono ?_
  rintro e w3 ⟨rfl, hb3⟩
  have HG3 := Lib.hid (show Blk w3 gR 29 #[.string sn, .int .i64 fr, .int .i64 tl, .int .i64 ((i : Int) + 1), .int .i64 dk, .int .i64 dw, .int .i64 dd, .int .i64 hs, .int .i64 0, .int .i64 sv, .string sl] ∧ Below w.heap.size w w3 from ⟨HG.out.1.below hb3 HG.out.1.lt, HG.out.2.trans (hb3.mono HG.out.2.size)⟩)
  clear HG hb3 HP
  go_wp2_with fail
  refine (HWo.out _ HG3.out.2).mono ?_
  rintro e w4 ⟨⟨g, cap, rfl, hcap, hgg, HC⟩, hb4⟩
  have HG4 := Lib.hid (show Blk w4 gR 29 #[.string sn, .int .i64 fr, .int .i64 tl, .int .i64 ((i : Int) + 1), .int .i64 dk, .int .i64 dw, .int .i64 dd, .int .i64 hs, .int .i64 0, .int .i64 sv, .string sl] ∧ Below w.heap.size w w4 from ⟨HG3.out.1.below hb4 HG3.out.1.lt, HG3.out.2.trans (hb4.mono HG3.out.2.size)⟩)
  have hgne : gR ≠ g := by have := HG3.out.1.lt; omega
  have hg : w.heap.size ≤ g := Nat.le_trans HG3.out.2.size hgg
  clear HG3 hb4 HWo hgg
  have hcap1 : ¬ cap = 1 := by omega
  have hcap2 : (10 : Int) ≤ (cap : Int) := by omega
  have m3 : w4.cell? ⟨gR, 3, none⟩ = some (.int .i64 ((i : Int) + 1)) := HG4.out.1.cell_ rfl
  have hlR := HG4.out.1.lt
  go_wp2_with fail
  refine (HTm.out _).mono ?_
  rintro e w5 ⟨⟨lm, rfl, HLm⟩, hb5⟩
  have HC5 := Lib.hid (show WRow w5 g [f0, f1, f2, f3, f4, f5, T6.data.toList, f7, f8] from (HC.out.alloc _).below hb5)
  have HG5 := Lib.hid (show Blk w5 gR 29 #[.string sn, .int .i64 fr, .int .i64 tl, .int .i64 ((i : Int) + 1), .int .i64 dk, .int .i64 dw, .int .i64 dd, .int .i64 hs, .int .i64 0, .int .i64 sv, .string sl] ∧ Below w.heap.size w w5 from ⟨(HG4.out.1.alloc _).below hb5 (HG4.out.1.alloc _).lt, (rbelow_alloc HG4.out.2 _).trans (hb5.mono (rbelow_alloc HG4.out.2 _).size)⟩)
  clear HC HG4 hb5 HTm m3 hlR hcM
  have c5 : w5.cell? ⟨g, 5, none⟩ = some (.string ⟨f4.toArray⟩) := (HC5.out.2 4 (by decide)).1
  have y5 : w5.frozen? ⟨g, 5, none⟩ = false := (HC5.out.2 4 (by decide)).2
  go_upto_region 8 with fail
  have HC6 := Lib.hid (show WRow (w5.setCell ⟨g, 5, none⟩ (.string ⟨lm.toArray⟩)) g [f0, f1, f2, f3, lm, f5, T6.data.toList, f7, f8] from HC5.out.set_ 4 (by decide) lm)
  have HG6 := Lib.hid (show Blk (w5.setCell ⟨g, 5, none⟩ (.string ⟨lm.toArray⟩)) gR 29 #[.string sn, .int .i64 fr, .int .i64 tl, .int .i64 ((i : Int) + 1), .int .i64 dk, .int .i64 dw, .int .i64 dd, .int .i64 hs, .int .i64 0, .int .i64 sv, .string sl] ∧ Below w.heap.size w (w5.setCell ⟨g, 5, none⟩ (.string ⟨lm.toArray⟩)) from ⟨HG5.out.1.far hgne _, HG5.out.2.setCell hg _⟩)
  generalize w5.setCell ⟨g, 5, none⟩ (.string ⟨lm.toArray⟩) = w6 at *
  clear HC5 HG5 c5 y5
  have r1 : w6.cell? ⟨gR, 1, none⟩ = some (.int .i64 fr) := HG6.out.1.cell_ rfl
  have r2 : w6.cell? ⟨gR, 2, none⟩ = some (.int .i64 tl) := HG6.out.1.cell_ rfl
  have hlR := HG6.out.1.lt
  go_upto_region 14 with fail
  have HC7 := HC6
  have HG7 := HG6
  clear HC6 HG6 r1 r2 hlR
  obtain ⟨w7, rfl⟩ : ∃ w7, w7 = w6 := ⟨_, rfl⟩
  have r8 : w7.cell? ⟨gR, 8, none⟩ = some (.int .i64 0) := HG7.out.1.cell_ rfl
  have c7 : w7.cell? ⟨g, 7, none⟩ = some (.string T6) := (HC7.out.2 6 (by decide)).1
  have y7 : w7.frozen? ⟨g, 7, none⟩ = false := (HC7.out.2 6 (by decide)).2
  have hgne2 : g ≠ gR := fun h => hgne h.symm
  go_upto_region 18 with fail
  have HC8 := Lib.hid (show WRow (w7.setCell ⟨g, 7, none⟩ (.string (T6 ++ ⟨#[119]⟩))) g [f0, f1, f2, f3, lm, f5, (T6 ++ ⟨#[119]⟩).data.toList, f7, f8] from HC7.out.set_ 6 (by decide) (T6 ++ ⟨#[119]⟩).data.toList)
  have HG8 := Lib.hid (show Blk (w7.setCell ⟨g, 7, none⟩ (.string (T6 ++ ⟨#[119]⟩))) gR 29 #[.string sn, .int .i64 fr, .int .i64 tl, .int .i64 ((i : Int) + 1), .int .i64 dk, .int .i64 dw, .int .i64 dd, .int .i64 hs, .int .i64 0, .int .i64 sv, .string sl] ∧ Below w.heap.size w (w7.setCell ⟨g, 7, none⟩ (.string (T6 ++ ⟨#[119]⟩))) from ⟨HG7.out.1.far hgne _, HG7.out.2.setCell hg _⟩)
  generalize w7.setCell ⟨g, 7, none⟩ (.string (T6 ++ ⟨#[119]⟩)) = w8 at *
  clear HC7 HG7 r8 c7 y7 hgne2
  go_wp2_with fail
  refine (HPa.out _ g _ lm HG8.out.2 HLm.out.1 HLm.out.2 HC8.out.strRow).mono ?_
  rintro e w9 ⟨rfl, hb9⟩
  have HG9 := Lib.hid (show Blk w9 gR 29 #[.string sn, .int .i64 fr, .int .i64 tl, .int .i64 ((i : Int) + 1), .int .i64 dk, .int .i64 dw, .int .i64 dd, .int .i64 hs, .int .i64 0, .int .i64 sv, .string sl] ∧ Below w.heap.size w w9 from ⟨HG8.out.1.below hb9 HG8.out.1.lt, HG8.out.2.trans (hb9.mono HG8.out.2.size)⟩)
  clear HG8 HC8 hb9 HPa HLm
  have u0 : w9.cell? ⟨gR, 0, none⟩ = some (.string sn) := HG9.out.1.cell_ rfl
  have u1 : w9.cell? ⟨gR, 1, none⟩ = some (.int .i64 fr) := HG9.out.1.cell_ rfl
  have u2 : w9.cell? ⟨gR, 2, none⟩ = some (.int .i64 tl) := HG9.out.1.cell_ rfl
  have u3 : w9.cell? ⟨gR, 3, none⟩ = some (.int .i64 ((i : Int) + 1)) := HG9.out.1.cell_ rfl
  have u4 : w9.cell? ⟨gR, 4, none⟩ = some (.int .i64 dk) := HG9.out.1.cell_ rfl
  have u5 : w9.cell? ⟨gR, 5, none⟩ = some (.int .i64 dw) := HG9.out.1.cell_ rfl
  have u6 : w9.cell? ⟨gR, 6, none⟩ = some (.int .i64 dd) := HG9.out.1.cell_ rfl
  have u7 : w9.cell? ⟨gR, 7, none⟩ = some (.int .i64 hs) := HG9.out.1.cell_ rfl
  have u8 : w9.cell? ⟨gR, 8, none⟩ = some (.int .i64 0) := HG9.out.1.cell_ rfl
  have u9 : w9.cell? ⟨gR, 9, none⟩ = some (.int .i64 sv) := HG9.out.1.cell_ rfl
  have u10 : w9.cell? ⟨gR, 10, none⟩ = some (.string sl) := HG9.out.1.cell_ rfl
  have hlR9 := HG9.out.1.lt
  go_wp2_with fail
  refine (HW.out _ (rbelow_alloc HG9.out.2 _)).mono ?_
  rintro e w10 ⟨rfl, hb10⟩
  have HZ := Lib.hid (show Below w.heap.size w w10 from (rbelow_alloc HG9.out.2 _).trans (hb10.mono (rbelow_alloc HG9.out.2 _).size))
  clear hb10 HG9
  go_wp2_with fail
  go_ret
  exact ⟨rfl, HZ.out⟩

set_option maxRecDepth 100000 in
set_option maxHeartbeats 2000000 in
theorem rw_31 (D : Array Value) (sn sl : ByteArray) (fr tl dk dw dd hs sv : Int) (T T6 : ByteArray) (f0 f1 f2 f3 f4 f5 f7 f8 : List UInt8) (bt x : Nat) (i : Nat) (sM : ByteArray) (w : World) (hi12 : i < 12) (hbt : bt < 65536) (hx : x < 256) (hD : (Tryz.prog.info? 41).map (·.size) = some D.size)
    (HM : Hid (∀ W, Calls Tryz.prog 15 #[.agg D] W fun e w' => e = .returned (.agg #[.string sn, .int .i64 fr, .int .i64 tl, .int .i64 ((i : Int) + 1), .int .i64 dk, .int .i64 dw, .int .i64 dd, .int .i64 hs, .int .i64 1, .int .i64 sv, .string sl]) ∧ Below W.heap.size W w'))
    (HP : Hid (∀ W, Below w.heap.size w W → Calls Tryz.prog 13 #[.agg #[.string sn, .int .i64 fr, .int .i64 tl, .int .i64 ((i : Int) + 1), .int .i64 dk, .int .i64 dw, .int .i64 dd, .int .i64 hs, .int .i64 1, .int .i64 sv, .string sl]] W fun e w' => e = .returned (.tuple #[.string T, .int .i64 0]) ∧ Below W.heap.size W w'))
    (HWo : Hid (∀ W, Below w.heap.size w W → Calls Tryz.prog 16 #[.string T] W fun e w' => (∃ g cap, e = .returned (.slice (some ⟨g, 0, none⟩) 10 cap) ∧ 10 ≤ cap ∧ W.heap.size ≤ g ∧ Hid (WRow w' g [f0, f1, f2, f3, f4, f5, T6.data.toList, f7, f8])) ∧ Below W.heap.size W w'))
    (hcM : ∀ W : World, (W.alloc (.cells #[.string ⟨#[74, 97, 110, 117, 97, 114, 121]⟩, .string ⟨#[70, 101, 98, 114, 117, 97, 114, 121]⟩, .string ⟨#[77, 97, 114, 99, 104]⟩, .string ⟨#[65, 112, 114, 105, 108]⟩, .string ⟨#[77, 97, 121]⟩, .string ⟨#[74, 117, 110, 101]⟩, .string ⟨#[74, 117, 108, 121]⟩, .string ⟨#[65, 117, 103, 117, 115, 116]⟩, .string ⟨#[83, 101, 112, 116, 101, 109, 98, 101, 114]⟩, .string ⟨#[79, 99, 116, 111, 98, 101, 114]⟩, .string ⟨#[78, 111, 118, 101, 109, 98, 101, 114]⟩, .string ⟨#[68, 101, 99, 101, 109, 98, 101, 114]⟩] 9)).cell? ⟨W.heap.size, i, none⟩ = some (.string sM))
    (HTm : Hid (∀ W, Calls Tryz.prog 17 #[.string sM, .int .u16 (bt : Int)] W fun e w' => (∃ l : List UInt8, e = .returned (.string ⟨l.toArray⟩) ∧ Hid (wordR monthL 1 l = ((i : Int) + 1, 0) ∧ l.length ≤ 30)) ∧ Below W.heap.size W w'))
    (HW : Hid (∀ W, Below w.heap.size w W → Calls Tryz.prog 10 #[] W fun e w' => e = .returned (.bool true) ∧ Below W.heap.size W w')) (hft : (tl == fr) = false) (hfm : (tl == 1048576) = false)
    (HPa : Hid (∀ W g cap (lm : List UInt8), Below w.heap.size w W → wordR monthL 1 lm = ((i : Int) + 1, 0) → lm.length ≤ 30 → StrRow W g 1 [f0, f1, f2, f3, lm, f5, T6.data.toList, f7, f8] → Calls Tryz.prog 11 #[.slice (some ⟨g, 1, none⟩) 9 cap] W fun e w' => e = .returned (.tuple #[.agg #[.string sn, .int .i64 fr, .int .i64 tl, .int .i64 ((i : Int) + 1), .int .i64 dk, .int .i64 dw, .int .i64 dd, .int .i64 hs, .int .i64 1, .int .i64 sv, .string sl], .int .i64 0]) ∧ Below W.heap.size W w')) :
    Calls Tryz.prog 7 #[.agg D, .int .u16 (bt : Int), .int .u8 (x : Int)] w fun e w' => e = .returned (.bool true) ∧ Below w.heap.size w w' := by
  have hi0 : (0 : Int) ≤ (i : Int) := by omega
  have hi1 : (i : Int) < 12 := by omega
  go_enter Tryz.func7, Tryz.ntmps7
  go_wp2_with (first | (refine wpList_load_row rfl 41 (.tmp 3) rfl w.heap.size rfl 41 D (0, 0) _ (Blk.new _ _ _) Tryz.underlying41 rfl hD ?_) | fail)
  refine (HM.out _).mono ?_
  rintro e w1 ⟨rfl, hb1⟩
  have HB := Lib.hid (show Below w.heap.size w w1 from ((Below.refl _ _).alloc (Nat.le_refl _) _).trans (hb1.mono (by simp)))
  clear hb1
  go_upto_region 2 with fail
  have HG := Lib.hid (And.intro (Blk.new' w1 29 #[.string sn, .int .i64 fr, .int .i64 tl, .int .i64 ((i : Int) + 1), .int .i64 dk, .int .i64 dw, .int .i64 dd, .int .i64 hs, .int .i64 1, .int .i64 sv, .string sl] rfl) (HB.out.alloc HB.out.size (.cells #[.string sn, .int .i64 fr, .int .i64 tl, .int .i64 ((i : Int) + 1), .int .i64 dk, .int .i64 dw, .int .i64 dd, .int .i64 hs, .int .i64 1, .int .i64 sv, .string sl] 29)))
  generalize w1.alloc (.cells #[.string sn, .int .i64 fr, .int .i64 tl, .int .i64 ((i : Int) + 1), .int .i64 dk, .int .i64 dw, .int .i64 dd, .int .i64 hs, .int .i64 1, .int .i64 sv, .string sl] 29) = w2 at *
  have hgR : w.heap.size ≤ w1.heap.size := HB.out.size
  clear HB HM hD
  generalize w1.heap.size = gR at *
  go_wp2_with (first | (refine wpList_load_row rfl 29 (.tmp 7) rfl gR rfl 29 #[.string sn, .int .i64 fr, .int .i64 tl, .int .i64 ((i : Int) + 1), .int .i64 dk, .int .i64 dw, .int .i64 dd, .int .i64 hs, .int .i64 1, .int .i64 sv, .string sl] (0, 0) _ HG.out.1 Tryz.underlying29 rfl infoRule ?_) | fail)
  refine (HP.out _ HG.out.2).mono ?_
  rintro e w3 ⟨rfl, hb3⟩
  have HG3 := Lib.hid (show Blk w3 gR 29 #[.string sn, .int .i64 fr, .int .i64 tl, .int .i64 ((i : Int) + 1), .int .i64 dk, .int .i64 dw, .int .i64 dd, .int .i64 hs, .int .i64 1, .int .i64 sv, .string sl] ∧ Below w.heap.size w w3 from ⟨HG.out.1.below hb3 HG.out.1.lt, HG.out.2.trans (hb3.mono HG.out.2.size)⟩)
  clear HG hb3 HP
  go_wp2_with fail
  refine (HWo.out _ HG3.out.2).mono ?_
  rintro e w4 ⟨⟨g, cap, rfl, hcap, hgg, HC⟩, hb4⟩
  have HG4 := Lib.hid (show Blk w4 gR 29 #[.string sn, .int .i64 fr, .int .i64 tl, .int .i64 ((i : Int) + 1), .int .i64 dk, .int .i64 dw, .int .i64 dd, .int .i64 hs, .int .i64 1, .int .i64 sv, .string sl] ∧ Below w.heap.size w w4 from ⟨HG3.out.1.below hb4 HG3.out.1.lt, HG3.out.2.trans (hb4.mono HG3.out.2.size)⟩)
  have hgne : gR ≠ g := by have := HG3.out.1.lt; omega
  have hg : w.heap.size ≤ g := Nat.le_trans HG3.out.2.size hgg
  clear HG3 hb4 HWo hgg
  have hcap1 : ¬ cap = 1 := by omega
  have hcap2 : (10 : Int) ≤ (cap : Int) := by omega
  have m3 : w4.cell? ⟨gR, 3, none⟩ = some (.int .i64 ((i : Int) + 1)) := HG4.out.1.cell_ rfl
  have hlR := HG4.out.1.lt
  go_wp2_with fail
  refine (HTm.out _).mono ?_
  rintro e w5 ⟨⟨lm, rfl, HLm⟩, hb5⟩
  have HC5 := Lib.hid (show WRow w5 g [f0, f1, f2, f3, f4, f5, T6.data.toList, f7, f8] from (HC.out.alloc _).below hb5)
  have HG5 := Lib.hid (show Blk w5 gR 29 #[.string sn, .int .i64 fr, .int .i64 tl, .int .i64 ((i : Int) + 1), .int .i64 dk, .int .i64 dw, .int .i64 dd, .int .i64 hs, .int .i64 1, .int .i64 sv, .string sl] ∧ Below w.heap.size w w5 from ⟨(HG4.out.1.alloc _).below hb5 (HG4.out.1.alloc _).lt, (rbelow_alloc HG4.out.2 _).trans (hb5.mono (rbelow_alloc HG4.out.2 _).size)⟩)
  clear HC HG4 hb5 HTm m3 hlR hcM
  have c5 : w5.cell? ⟨g, 5, none⟩ = some (.string ⟨f4.toArray⟩) := (HC5.out.2 4 (by decide)).1
  have y5 : w5.frozen? ⟨g, 5, none⟩ = false := (HC5.out.2 4 (by decide)).2
  go_upto_region 8 with fail
  have HC6 := Lib.hid (show WRow (w5.setCell ⟨g, 5, none⟩ (.string ⟨lm.toArray⟩)) g [f0, f1, f2, f3, lm, f5, T6.data.toList, f7, f8] from HC5.out.set_ 4 (by decide) lm)
  have HG6 := Lib.hid (show Blk (w5.setCell ⟨g, 5, none⟩ (.string ⟨lm.toArray⟩)) gR 29 #[.string sn, .int .i64 fr, .int .i64 tl, .int .i64 ((i : Int) + 1), .int .i64 dk, .int .i64 dw, .int .i64 dd, .int .i64 hs, .int .i64 1, .int .i64 sv, .string sl] ∧ Below w.heap.size w (w5.setCell ⟨g, 5, none⟩ (.string ⟨lm.toArray⟩)) from ⟨HG5.out.1.far hgne _, HG5.out.2.setCell hg _⟩)
  generalize w5.setCell ⟨g, 5, none⟩ (.string ⟨lm.toArray⟩) = w6 at *
  clear HC5 HG5 c5 y5
  have r1 : w6.cell? ⟨gR, 1, none⟩ = some (.int .i64 fr) := HG6.out.1.cell_ rfl
  have r2 : w6.cell? ⟨gR, 2, none⟩ = some (.int .i64 tl) := HG6.out.1.cell_ rfl
  have hlR := HG6.out.1.lt
  go_upto_region 14 with fail
  have HC7 := HC6
  have HG7 := HG6
  clear HC6 HG6 r1 r2 hlR
  obtain ⟨w7, rfl⟩ : ∃ w7, w7 = w6 := ⟨_, rfl⟩
  have r8 : w7.cell? ⟨gR, 8, none⟩ = some (.int .i64 1) := HG7.out.1.cell_ rfl
  have c7 : w7.cell? ⟨g, 7, none⟩ = some (.string T6) := (HC7.out.2 6 (by decide)).1
  have y7 : w7.frozen? ⟨g, 7, none⟩ = false := (HC7.out.2 6 (by decide)).2
  go_upto_region 18 with fail
  have HC8 := HC7
  have HG8 := HG7
  clear HC7 HG7 r8 c7 y7
  obtain ⟨w8, rfl⟩ : ∃ w8, w8 = w7 := ⟨_, rfl⟩
  go_wp2_with fail
  refine (HPa.out _ g _ lm HG8.out.2 HLm.out.1 HLm.out.2 HC8.out.strRow).mono ?_
  rintro e w9 ⟨rfl, hb9⟩
  have HG9 := Lib.hid (show Blk w9 gR 29 #[.string sn, .int .i64 fr, .int .i64 tl, .int .i64 ((i : Int) + 1), .int .i64 dk, .int .i64 dw, .int .i64 dd, .int .i64 hs, .int .i64 1, .int .i64 sv, .string sl] ∧ Below w.heap.size w w9 from ⟨HG8.out.1.below hb9 HG8.out.1.lt, HG8.out.2.trans (hb9.mono HG8.out.2.size)⟩)
  clear HG8 HC8 hb9 HPa HLm
  have u0 : w9.cell? ⟨gR, 0, none⟩ = some (.string sn) := HG9.out.1.cell_ rfl
  have u1 : w9.cell? ⟨gR, 1, none⟩ = some (.int .i64 fr) := HG9.out.1.cell_ rfl
  have u2 : w9.cell? ⟨gR, 2, none⟩ = some (.int .i64 tl) := HG9.out.1.cell_ rfl
  have u3 : w9.cell? ⟨gR, 3, none⟩ = some (.int .i64 ((i : Int) + 1)) := HG9.out.1.cell_ rfl
  have u4 : w9.cell? ⟨gR, 4, none⟩ = some (.int .i64 dk) := HG9.out.1.cell_ rfl
  have u5 : w9.cell? ⟨gR, 5, none⟩ = some (.int .i64 dw) := HG9.out.1.cell_ rfl
  have u6 : w9.cell? ⟨gR, 6, none⟩ = some (.int .i64 dd) := HG9.out.1.cell_ rfl
  have u7 : w9.cell? ⟨gR, 7, none⟩ = some (.int .i64 hs) := HG9.out.1.cell_ rfl
  have u8 : w9.cell? ⟨gR, 8, none⟩ = some (.int .i64 1) := HG9.out.1.cell_ rfl
  have u9 : w9.cell? ⟨gR, 9, none⟩ = some (.int .i64 sv) := HG9.out.1.cell_ rfl
  have u10 : w9.cell? ⟨gR, 10, none⟩ = some (.string sl) := HG9.out.1.cell_ rfl
  have hlR9 := HG9.out.1.lt
  go_wp2_with fail
  refine (HW.out _ (rbelow_alloc HG9.out.2 _)).mono ?_
  rintro e w10 ⟨rfl, hb10⟩
  have HZ := Lib.hid (show Below w.heap.size w w10 from (rbelow_alloc HG9.out.2 _).trans (hb10.mono (rbelow_alloc HG9.out.2 _).size))
  clear hb10 HG9
  go_wp2_with fail
  go_ret
  exact ⟨rfl, HZ.out⟩

set_option maxRecDepth 100000 in
set_option maxHeartbeats 2000000 in
theorem rw_32 (D : Array Value) (sn sl : ByteArray) (fr tl dk dw dd hs sv : Int) (T T6 : ByteArray) (f0 f1 f2 f3 f4 f5 f7 f8 : List UInt8) (bt x : Nat) (i : Nat) (sM : ByteArray) (w : World) (hi12 : i < 12) (hbt : bt < 65536) (hx : x < 256) (hD : (Tryz.prog.info? 41).map (·.size) = some D.size)
    (HM : Hid (∀ W, Calls Tryz.prog 15 #[.agg D] W fun e w' => e = .returned (.agg #[.string sn, .int .i64 fr, .int .i64 tl, .int .i64 ((i : Int) + 1), .int .i64 dk, .int .i64 dw, .int .i64 dd, .int .i64 hs, .int .i64 2, .int .i64 sv, .string sl]) ∧ Below W.heap.size W w'))
    (HP : Hid (∀ W, Below w.heap.size w W → Calls Tryz.prog 13 #[.agg #[.string sn, .int .i64 fr, .int .i64 tl, .int .i64 ((i : Int) + 1), .int .i64 dk, .int .i64 dw, .int .i64 dd, .int .i64 hs, .int .i64 2, .int .i64 sv, .string sl]] W fun e w' => e = .returned (.tuple #[.string T, .int .i64 0]) ∧ Below W.heap.size W w'))
    (HWo : Hid (∀ W, Below w.heap.size w W → Calls Tryz.prog 16 #[.string T] W fun e w' => (∃ g cap, e = .returned (.slice (some ⟨g, 0, none⟩) 10 cap) ∧ 10 ≤ cap ∧ W.heap.size ≤ g ∧ Hid (WRow w' g [f0, f1, f2, f3, f4, f5, T6.data.toList, f7, f8])) ∧ Below W.heap.size W w'))
    (hcM : ∀ W : World, (W.alloc (.cells #[.string ⟨#[74, 97, 110, 117, 97, 114, 121]⟩, .string ⟨#[70, 101, 98, 114, 117, 97, 114, 121]⟩, .string ⟨#[77, 97, 114, 99, 104]⟩, .string ⟨#[65, 112, 114, 105, 108]⟩, .string ⟨#[77, 97, 121]⟩, .string ⟨#[74, 117, 110, 101]⟩, .string ⟨#[74, 117, 108, 121]⟩, .string ⟨#[65, 117, 103, 117, 115, 116]⟩, .string ⟨#[83, 101, 112, 116, 101, 109, 98, 101, 114]⟩, .string ⟨#[79, 99, 116, 111, 98, 101, 114]⟩, .string ⟨#[78, 111, 118, 101, 109, 98, 101, 114]⟩, .string ⟨#[68, 101, 99, 101, 109, 98, 101, 114]⟩] 9)).cell? ⟨W.heap.size, i, none⟩ = some (.string sM))
    (HTm : Hid (∀ W, Calls Tryz.prog 17 #[.string sM, .int .u16 (bt : Int)] W fun e w' => (∃ l : List UInt8, e = .returned (.string ⟨l.toArray⟩) ∧ Hid (wordR monthL 1 l = ((i : Int) + 1, 0) ∧ l.length ≤ 30)) ∧ Below W.heap.size W w'))
    (HW : Hid (∀ W, Below w.heap.size w W → Calls Tryz.prog 10 #[] W fun e w' => e = .returned (.bool true) ∧ Below W.heap.size W w')) (hft : (tl == fr) = false) (hfm : (tl == 1048576) = false) (p : Nat) (hp3 : p < 3) (hpI : (x : Int) % 3 = (p : Int)) (sp : ByteArray) (Hcp : Hid (∀ (W : World) (g : Nat), Blk W g 9 #[.string ⟨#[103]⟩, .string ⟨#[122]⟩, .string ⟨#[117]⟩] → W.cell? ⟨g, p, none⟩ = some (.string sp))) (hsp : sp.size ≤ 1) (hT6a : 1 ≤ T6.size) (hT6b : T6.size ≤ 30)
    (HPa : Hid (∀ W g cap (lm : List UInt8), Below w.heap.size w W → wordR monthL 1 lm = ((i : Int) + 1, 0) → lm.length ≤ 30 → StrRow W g 1 [f0, f1, f2, f3, lm, f5, (T6.extract 0 (T6.size - 1) ++ sp).data.toList, f7, f8] → Calls Tryz.prog 11 #[.slice (some ⟨g, 1, none⟩) 9 cap] W fun e w' => e = .returned (.tuple #[.agg #[.string sn, .int .i64 fr, .int .i64 tl, .int .i64 ((i : Int) + 1), .int .i64 dk, .int .i64 dw, .int .i64 dd, .int .i64 hs, .int .i64 2, .int .i64 sv, .string sl], .int .i64 0]) ∧ Below W.heap.size W w')) :
    Calls Tryz.prog 7 #[.agg D, .int .u16 (bt : Int), .int .u8 (x : Int)] w fun e w' => e = .returned (.bool true) ∧ Below w.heap.size w w' := by
  have hi0 : (0 : Int) ≤ (i : Int) := by omega
  have hi1 : (i : Int) < 12 := by omega
  go_enter Tryz.func7, Tryz.ntmps7
  go_wp2_with (first | (refine wpList_load_row rfl 41 (.tmp 3) rfl w.heap.size rfl 41 D (0, 0) _ (Blk.new _ _ _) Tryz.underlying41 rfl hD ?_) | fail)
  refine (HM.out _).mono ?_
  rintro e w1 ⟨rfl, hb1⟩
  have HB := Lib.hid (show Below w.heap.size w w1 from ((Below.refl _ _).alloc (Nat.le_refl _) _).trans (hb1.mono (by simp)))
  clear hb1
  go_upto_region 2 with fail
  have HG := Lib.hid (And.intro (Blk.new' w1 29 #[.string sn, .int .i64 fr, .int .i64 tl, .int .i64 ((i : Int) + 1), .int .i64 dk, .int .i64 dw, .int .i64 dd, .int .i64 hs, .int .i64 2, .int .i64 sv, .string sl] rfl) (HB.out.alloc HB.out.size (.cells #[.string sn, .int .i64 fr, .int .i64 tl, .int .i64 ((i : Int) + 1), .int .i64 dk, .int .i64 dw, .int .i64 dd, .int .i64 hs, .int .i64 2, .int .i64 sv, .string sl] 29)))
  generalize w1.alloc (.cells #[.string sn, .int .i64 fr, .int .i64 tl, .int .i64 ((i : Int) + 1), .int .i64 dk, .int .i64 dw, .int .i64 dd, .int .i64 hs, .int .i64 2, .int .i64 sv, .string sl] 29) = w2 at *
  have hgR : w.heap.size ≤ w1.heap.size := HB.out.size
  clear HB HM hD
  generalize w1.heap.size = gR at *
  go_wp2_with (first | (refine wpList_load_row rfl 29 (.tmp 7) rfl gR rfl 29 #[.string sn, .int .i64 fr, .int .i64 tl, .int .i64 ((i : Int) + 1), .int .i64 dk, .int .i64 dw, .int .i64 dd, .int .i64 hs, .int .i64 2, .int .i64 sv, .string sl] (0, 0) _ HG.out.1 Tryz.underlying29 rfl infoRule ?_) | fail)
  refine (HP.out _ HG.out.2).mono ?_
  rintro e w3 ⟨rfl, hb3⟩
  have HG3 := Lib.hid (show Blk w3 gR 29 #[.string sn, .int .i64 fr, .int .i64 tl, .int .i64 ((i : Int) + 1), .int .i64 dk, .int .i64 dw, .int .i64 dd, .int .i64 hs, .int .i64 2, .int .i64 sv, .string sl] ∧ Below w.heap.size w w3 from ⟨HG.out.1.below hb3 HG.out.1.lt, HG.out.2.trans (hb3.mono HG.out.2.size)⟩)
  clear HG hb3 HP
  go_wp2_with fail
  refine (HWo.out _ HG3.out.2).mono ?_
  rintro e w4 ⟨⟨g, cap, rfl, hcap, hgg, HC⟩, hb4⟩
  have HG4 := Lib.hid (show Blk w4 gR 29 #[.string sn, .int .i64 fr, .int .i64 tl, .int .i64 ((i : Int) + 1), .int .i64 dk, .int .i64 dw, .int .i64 dd, .int .i64 hs, .int .i64 2, .int .i64 sv, .string sl] ∧ Below w.heap.size w w4 from ⟨HG3.out.1.below hb4 HG3.out.1.lt, HG3.out.2.trans (hb4.mono HG3.out.2.size)⟩)
  have hgne : gR ≠ g := by have := HG3.out.1.lt; omega
  have hg : w.heap.size ≤ g := Nat.le_trans HG3.out.2.size hgg
  clear HG3 hb4 HWo hgg
  have hcap1 : ¬ cap = 1 := by omega
  have hcap2 : (10 : Int) ≤ (cap : Int) := by omega
  have m3 : w4.cell? ⟨gR, 3, none⟩ = some (.int .i64 ((i : Int) + 1)) := HG4.out.1.cell_ rfl
  have hlR := HG4.out.1.lt
  go_wp2_with fail
  refine (HTm.out _).mono ?_
  rintro e w5 ⟨⟨lm, rfl, HLm⟩, hb5⟩
  have HC5 := Lib.hid (show WRow w5 g [f0, f1, f2, f3, f4, f5, T6.data.toList, f7, f8] from (HC.out.alloc _).below hb5)
  have HG5 := Lib.hid (show Blk w5 gR 29 #[.string sn, .int .i64 fr, .int .i64 tl, .int .i64 ((i : Int) + 1), .int .i64 dk, .int .i64 dw, .int .i64 dd, .int .i64 hs, .int .i64 2, .int .i64 sv, .string sl] ∧ Below w.heap.size w w5 from ⟨(HG4.out.1.alloc _).below hb5 (HG4.out.1.alloc _).lt, (rbelow_alloc HG4.out.2 _).trans (hb5.mono (rbelow_alloc HG4.out.2 _).size)⟩)
  clear HC HG4 hb5 HTm m3 hlR hcM
  have c5 : w5.cell? ⟨g, 5, none⟩ = some (.string ⟨f4.toArray⟩) := (HC5.out.2 4 (by decide)).1
  have y5 : w5.frozen? ⟨g, 5, none⟩ = false := (HC5.out.2 4 (by decide)).2
  go_upto_region 8 with fail
  have HC6 := Lib.hid (show WRow (w5.setCell ⟨g, 5, none⟩ (.string ⟨lm.toArray⟩)) g [f0, f1, f2, f3, lm, f5, T6.data.toList, f7, f8] from HC5.out.set_ 4 (by decide) lm)
  have HG6 := Lib.hid (show Blk (w5.setCell ⟨g, 5, none⟩ (.string ⟨lm.toArray⟩)) gR 29 #[.string sn, .int .i64 fr, .int .i64 tl, .int .i64 ((i : Int) + 1), .int .i64 dk, .int .i64 dw, .int .i64 dd, .int .i64 hs, .int .i64 2, .int .i64 sv, .string sl] ∧ Below w.heap.size w (w5.setCell ⟨g, 5, none⟩ (.string ⟨lm.toArray⟩)) from ⟨HG5.out.1.far hgne _, HG5.out.2.setCell hg _⟩)
  generalize w5.setCell ⟨g, 5, none⟩ (.string ⟨lm.toArray⟩) = w6 at *
  clear HC5 HG5 c5 y5
  have r1 : w6.cell? ⟨gR, 1, none⟩ = some (.int .i64 fr) := HG6.out.1.cell_ rfl
  have r2 : w6.cell? ⟨gR, 2, none⟩ = some (.int .i64 tl) := HG6.out.1.cell_ rfl
  have hlR := HG6.out.1.lt
  go_upto_region 14 with fail
  have HC7 := HC6
  have HG7 := HG6
  clear HC6 HG6 r1 r2 hlR
  obtain ⟨w7, rfl⟩ : ∃ w7, w7 = w6 := ⟨_, rfl⟩
  have r8 : w7.cell? ⟨gR, 8, none⟩ = some (.int .i64 2) := HG7.out.1.cell_ rfl
  have c7 : w7.cell? ⟨g, 7, none⟩ = some (.string T6) := (HC7.out.2 6 (by decide)).1
  have y7 : w7.frozen? ⟨g, 7, none⟩ = false := (HC7.out.2 6 (by decide)).2
  have hp0 : (0 : Int) ≤ (p : Int) := by omega
  have hp1 : (p : Int) < 3 := by omega
  have hT6c : decide (0 < T6.size) = true := by simp; omega
  have hT6w : IntKind.i64.wrap ((T6.size : Int) - 1) = (T6.size : Int) - 1 := IntWalk.i64_in _ (by omega)
  have hT6n : ((T6.size : Int) - 1).toNat = T6.size - 1 := by omega
  have hT6p : (0 : Int) ≤ (T6.size : Int) - 1 := by omega
  have hT6r : (1 : Int) ≤ (T6.size : Int) := by omega
  have hT6s : ¬ 9223372036854775807 < T6.size - 1 + sp.size := by omega
  have hT6q : (T6.size : Int) - 1 ≤ (T6.size : Int) := by omega
  have htm : (x : Int).tmod 3 = (p : Int) := by rw [Int.tmod_eq_emod_of_nonneg (by omega)]; exact hpI
  go_upto_region 17 with fail
  refine wp_region_rels 17 [[], [], [], [], [], [], [], [], [], [], [], [], [], [10], [13], [], []] [Form.val, Form.val, Form.val, Form.val, Form.val, Form.val, Form.val, Form.val, Form.val, Form.val, Form.rel (TabIs3 #[.string ⟨#[103]⟩, .string ⟨#[122]⟩, .string ⟨#[117]⟩]), Form.val, Form.val, Form.rel (PtrIs3 p #[.string ⟨#[103]⟩, .string ⟨#[122]⟩, .string ⟨#[117]⟩]), Form.val, Form.val, Form.val] (W2Held w g gR [f0, f1, f2, f3, lm, f5, T6.data.toList, f7, f8] #[.string sn, .int .i64 fr, .int .i64 tl, .int .i64 ((i : Int) + 1), .int .i64 dk, .int .i64 dw, .int .i64 dd, .int .i64 hs, .int .i64 2, .int .i64 sv, .string sl]) (by kernel_rfl) (by kernel_rfl) rfl rfl (⟨HC7.out, HG7.out.1, HG7.out.2.drew⟩) (fun W W' h hb => ⟨h.1.below hb, h.2.1.below hb h.2.1.lt, h.2.2.trans (hb.mono h.2.2.size)⟩) ⟨TabIs3.lasts _, PtrIs3.lasts _ _, trivial⟩ ?_
  repeat (first | apply exSpec_rel | apply exSpec_new | apply exSpec_val)
  apply relWalk_ex rfl ?o0 (fun K hK => ?n0)
  case o0 =>
    intro W hC hF
    have c7 : W.cell? ⟨g, 7, none⟩ = some (.string T6) := (hC.1.2 6 (by decide)).1
    go_simp
    all_goals exact ⟨Below.refl _ _, rfl⟩
  case' n0 =>
    go_simp
    refine hK _ ?_
    clear hK K
  apply relWalk_ex rfl ?o1 (fun K hK => ?n1)
  case o1 =>
    intro W hC hF
    have c7 : W.cell? ⟨g, 7, none⟩ = some (.string T6) := (hC.1.2 6 (by decide)).1
    go_simp
    all_goals exact ⟨Below.refl _ _, rfl⟩
  case' n1 =>
    go_simp
    refine hK _ ?_
    clear hK K
  apply relWalk_ex rfl ?o2 (fun K hK => ?n2)
  case o2 =>
    intro W hC hF
    have c7 : W.cell? ⟨g, 7, none⟩ = some (.string T6) := (hC.1.2 6 (by decide)).1
    go_simp
    all_goals exact ⟨Below.refl _ _, rfl⟩
  case' n2 =>
    go_simp
    refine hK _ ?_
    clear hK K
  apply relWalk_ex rfl ?o3 (fun K hK => ?n3)
  case o3 =>
    intro W hC hF
    have c7 : W.cell? ⟨g, 7, none⟩ = some (.string T6) := (hC.1.2 6 (by decide)).1
    go_simp
    all_goals exact ⟨Below.refl _ _, rfl⟩
  case' n3 =>
    go_simp
    refine hK _ ?_
    clear hK K
  apply relWalk_ex rfl ?o4 (fun K hK => ?n4)
  case o4 =>
    intro W hC hF
    have c7 : W.cell? ⟨g, 7, none⟩ = some (.string T6) := (hC.1.2 6 (by decide)).1
    go_simp
    all_goals exact ⟨Below.refl _ _, rfl⟩
  case' n4 =>
    go_simp
    refine hK _ ?_
    clear hK K
  apply relWalk_ex rfl ?o5 (fun K hK => ?n5)
  case o5 =>
    intro W hC hF
    have c7 : W.cell? ⟨g, 7, none⟩ = some (.string T6) := (hC.1.2 6 (by decide)).1
    go_simp
    all_goals exact ⟨Below.refl _ _, rfl⟩
  case' n5 =>
    go_simp
    refine hK _ ?_
    clear hK K
  apply relWalk_ex rfl ?o6 (fun K hK => ?n6)
  case o6 =>
    intro W hC hF
    have c7 : W.cell? ⟨g, 7, none⟩ = some (.string T6) := (hC.1.2 6 (by decide)).1
    go_simp
    all_goals exact ⟨Below.refl _ _, rfl⟩
  case' n6 =>
    go_simp
    refine hK _ ?_
    clear hK K
  apply relWalk_ex rfl ?o7 (fun K hK => ?n7)
  case o7 =>
    intro W hC hF
    have c7 : W.cell? ⟨g, 7, none⟩ = some (.string T6) := (hC.1.2 6 (by decide)).1
    go_simp
    all_goals exact ⟨Below.refl _ _, rfl⟩
  case' n7 =>
    go_simp
    refine hK _ ?_
    clear hK K
  apply relWalk_ex rfl ?o8 (fun K hK => ?n8)
  case o8 =>
    intro W hC hF
    have c7 : W.cell? ⟨g, 7, none⟩ = some (.string T6) := (hC.1.2 6 (by decide)).1
    go_simp
    all_goals exact ⟨Below.refl _ _, rfl⟩
  case' n8 =>
    go_simp
    refine hK _ ?_
    clear hK K
  apply relWalk_ex rfl ?o9 (fun K hK => ?n9)
  case o9 =>
    intro W hC hF
    have c7 : W.cell? ⟨g, 7, none⟩ = some (.string T6) := (hC.1.2 6 (by decide)).1
    go_simp
    all_goals exact ⟨Below.refl _ _, rfl⟩
  case' n9 =>
    go_simp
    refine hK _ ?_
    clear hK K
  apply relWalk_rel rfl ?o10 (fun u10 K hK => ?n10)
  case o10 =>
    intro W hC hF
    have c7 : W.cell? ⟨g, 7, none⟩ = some (.string T6) := (hC.1.2 6 (by decide)).1
    go_simp
    all_goals exact ⟨by go_grown, _, rfl, Blk.new _ _ _⟩
  case' n10 =>
    go_simp
    refine hK _ ?_
    clear hK K
  apply relWalk_ex rfl ?o11 (fun K hK => ?n11)
  case o11 =>
    intro W hC hF
    have c7 : W.cell? ⟨g, 7, none⟩ = some (.string T6) := (hC.1.2 6 (by decide)).1
    go_simp
    all_goals exact ⟨Below.refl _ _, rfl⟩
  case' n11 =>
    go_simp
    refine hK _ ?_
    clear hK K
  apply relWalk_ex rfl ?o12 (fun K hK => ?n12)
  case o12 =>
    intro W hC hF
    have c7 : W.cell? ⟨g, 7, none⟩ = some (.string T6) := (hC.1.2 6 (by decide)).1
    go_simp
    all_goals exact ⟨Below.refl _ _, rfl⟩
  case' n12 =>
    go_simp
    refine hK _ ?_
    clear hK K
  apply relWalk_rel rfl ?o13 (fun u13 K hK => ?n13)
  case o13 =>
    intro W hC hF
    obtain ⟨⟨gz, rfl, hB⟩, -⟩ := hF
    have c7 : W.cell? ⟨g, 7, none⟩ = some (.string T6) := (hC.1.2 6 (by decide)).1
    go_simp
    all_goals exact ⟨by go_grown, gz, rfl, hB⟩
  case' n13 =>
    go_simp
    refine hK _ ?_
    clear hK K
  apply relWalk_ex rfl ?o14 (fun K hK => ?n14)
  case o14 =>
    intro W hC hF
    obtain ⟨⟨gz, rfl, hB⟩, -⟩ := hF
    have hxp : W.cell? ⟨gz, p, none⟩ = some (.string sp) := Hcp.out W gz hB
    have c7 : W.cell? ⟨g, 7, none⟩ = some (.string T6) := (hC.1.2 6 (by decide)).1
    go_simp
    all_goals exact ⟨Below.refl _ _, rfl⟩
  case' n14 =>
    go_simp
    refine hK _ ?_
    clear hK K
  apply relWalk_ex rfl ?o15 (fun K hK => ?n15)
  case o15 =>
    intro W hC hF
    have c7 : W.cell? ⟨g, 7, none⟩ = some (.string T6) := (hC.1.2 6 (by decide)).1
    go_simp
    all_goals exact ⟨Below.refl _ _, rfl⟩
  case' n15 =>
    go_simp
    refine hK _ ?_
    clear hK K
  apply relWalk_ex rfl ?o16 (fun K hK => ?n16)
  case o16 =>
    intro W hC hF
    have c7 : W.cell? ⟨g, 7, none⟩ = some (.string T6) := (hC.1.2 6 (by decide)).1
    go_simp
    all_goals exact ⟨Below.refl _ _, rfl⟩
  case' n16 =>
    go_simp
    refine hK _ ?_
    clear hK K
  apply relWalk_end
  intro W hC hF hU
  have z7 : W.cell? ⟨g, 7, none⟩ = some (.string T6) := (hC.1.2 6 (by decide)).1
  have y8 : W.frozen? ⟨g, 7, none⟩ = false := (hC.1.2 6 (by decide)).2
  have HC7b := Lib.hid hC
  clear hC hF hU HC7 HG7 r8 c7 y7
  go_upto_region 18 with fail
  have HC8 := Lib.hid (show WRow (W.setCell ⟨g, 7, none⟩ (.string (T6.extract 0 (T6.size - 1) ++ sp))) g [f0, f1, f2, f3, lm, f5, (T6.extract 0 (T6.size - 1) ++ sp).data.toList, f7, f8] from HC7b.out.1.set_ 6 (by decide) (T6.extract 0 (T6.size - 1) ++ sp).data.toList)
  have HG8 := Lib.hid (show Blk (W.setCell ⟨g, 7, none⟩ (.string (T6.extract 0 (T6.size - 1) ++ sp))) gR 29 #[.string sn, .int .i64 fr, .int .i64 tl, .int .i64 ((i : Int) + 1), .int .i64 dk, .int .i64 dw, .int .i64 dd, .int .i64 hs, .int .i64 2, .int .i64 sv, .string sl] ∧ Below w.heap.size w (W.setCell ⟨g, 7, none⟩ (.string (T6.extract 0 (T6.size - 1) ++ sp))) from ⟨HC7b.out.2.1.far hgne _, HC7b.out.2.2.setCell hg _⟩)
  generalize W.setCell ⟨g, 7, none⟩ (.string (T6.extract 0 (T6.size - 1) ++ sp)) = w8 at *
  clear HC7b z7 y8
  go_wp2_with fail
  refine (HPa.out _ g _ lm HG8.out.2 HLm.out.1 HLm.out.2 HC8.out.strRow).mono ?_
  rintro e w9 ⟨rfl, hb9⟩
  have HG9 := Lib.hid (show Blk w9 gR 29 #[.string sn, .int .i64 fr, .int .i64 tl, .int .i64 ((i : Int) + 1), .int .i64 dk, .int .i64 dw, .int .i64 dd, .int .i64 hs, .int .i64 2, .int .i64 sv, .string sl] ∧ Below w.heap.size w w9 from ⟨HG8.out.1.below hb9 HG8.out.1.lt, HG8.out.2.trans (hb9.mono HG8.out.2.size)⟩)
  clear HG8 HC8 hb9 HPa HLm
  have u0 : w9.cell? ⟨gR, 0, none⟩ = some (.string sn) := HG9.out.1.cell_ rfl
  have u1 : w9.cell? ⟨gR, 1, none⟩ = some (.int .i64 fr) := HG9.out.1.cell_ rfl
  have u2 : w9.cell? ⟨gR, 2, none⟩ = some (.int .i64 tl) := HG9.out.1.cell_ rfl
  have u3 : w9.cell? ⟨gR, 3, none⟩ = some (.int .i64 ((i : Int) + 1)) := HG9.out.1.cell_ rfl
  have u4 : w9.cell? ⟨gR, 4, none⟩ = some (.int .i64 dk) := HG9.out.1.cell_ rfl
  have u5 : w9.cell? ⟨gR, 5, none⟩ = some (.int .i64 dw) := HG9.out.1.cell_ rfl
  have u6 : w9.cell? ⟨gR, 6, none⟩ = some (.int .i64 dd) := HG9.out.1.cell_ rfl
  have u7 : w9.cell? ⟨gR, 7, none⟩ = some (.int .i64 hs) := HG9.out.1.cell_ rfl
  have u8 : w9.cell? ⟨gR, 8, none⟩ = some (.int .i64 2) := HG9.out.1.cell_ rfl
  have u9 : w9.cell? ⟨gR, 9, none⟩ = some (.int .i64 sv) := HG9.out.1.cell_ rfl
  have u10 : w9.cell? ⟨gR, 10, none⟩ = some (.string sl) := HG9.out.1.cell_ rfl
  have hlR9 := HG9.out.1.lt
  go_wp2_with fail
  refine (HW.out _ (rbelow_alloc HG9.out.2 _)).mono ?_
  rintro e w10 ⟨rfl, hb10⟩
  have HZ := Lib.hid (show Below w.heap.size w w10 from (rbelow_alloc HG9.out.2 _).trans (hb10.mono (rbelow_alloc HG9.out.2 _).size))
  clear hb10 HG9
  go_wp2_with fail
  go_ret
  exact ⟨rfl, HZ.out⟩

-- the plain side
theorem wordR_small {ws : List (List UInt8)} {f : Int} {l m : List UInt8} (h : smallL l = smallL m) : wordR ws f l = wordR ws f m := by unfold wordR wordF; rw [h]
def letsB (l : List UInt8) : Bool := l.all fun c => decide ((65 ≤ c.toNat ∧ c.toNat ≤ 90) ∨ (97 ≤ c.toNat ∧ c.toNat ≤ 122))
theorem lets_of {l : List UInt8} (h : letsB l = true) : ∀ j, j < (⟨l.toArray⟩ : ByteArray).size → isLet ((zs ⟨l.toArray⟩).getD j 0) := by
  intro j hj
  have hj' : j < l.length := hj
  have e2 : (zs ⟨l.toArray⟩).getD j 0 = ((l[j]'hj').toNat : Int) := by simp [zs, List.getD, List.getElem?_eq_getElem hj']
  have := of_decide_eq_true (List.all_eq_true.1 h _ (List.getElem_mem hj'))
  rw [e2]; unfold isLet
  omega
def capL : List (List UInt8) := [[74, 97, 110, 117, 97, 114, 121], [70, 101, 98, 114, 117, 97, 114, 121], [77, 97, 114, 99, 104], [65, 112, 114, 105, 108], [77, 97, 121], [74, 117, 110, 101], [74, 117, 108, 121], [65, 117, 103, 117, 115, 116], [83, 101, 112, 116, 101, 109, 98, 101, 114], [79, 99, 116, 111, 98, 101, 114], [78, 111, 118, 101, 109, 98, 101, 114], [68, 101, 99, 101, 109, 98, 101, 114]]
def onlL : List (List UInt8) := [[111], [111, 110], [111, 110, 108], [111, 110, 108, 121]]
def maxiL : List (List UInt8) := [[109, 97], [109, 97, 120], [109, 97, 120, 105], [109, 97, 120, 105, 109, 117, 109]]
def gzuL : List (List UInt8) := [[103], [122], [117]]
theorem cap_fin : ∀ i : Fin 12, letsB (capL.getD i.val []) = true ∧ (capL.getD i.val []).length ≤ 30 ∧ wordR monthL 1 (capL.getD i.val []) = ((i.val : Int) + 1, 0) := by decide +kernel
theorem onl_fin : ∀ i : Fin 4, letsB (onlL.getD i.val []) = true ∧ (onlL.getD i.val []).length ≤ 30 ∧ wordR toL 1 (onlL.getD i.val []) = (1, 0) := by decide +kernel
theorem maxi_fin : ∀ i : Fin 4, letsB (maxiL.getD i.val []) = true ∧ (maxiL.getD i.val []).length ≤ 30 ∧ wordR toL 1 (maxiL.getD i.val []) = (2, 0) := by decide +kernel
theorem gzu_fin : ∀ i : Fin 3, ∃ c : UInt8, gzuL.getD i.val [] = [c] ∧ baseOf c.toNat = some 2
  | ⟨0, _⟩ => ⟨103, rfl, rfl⟩
  | ⟨1, _⟩ => ⟨122, rfl, rfl⟩
  | ⟨2, _⟩ => ⟨117, rfl, rfl⟩
theorem until_turn {l : List UInt8} (f : Int) (h : ∀ c ∈ l, 65 ≤ c.toNat) : (wordR toL 1 l = (1, 0) → untilR l f = (f, 0)) ∧ (wordR toL 1 l = (2, 0) → untilR l f = (1048576, 0)) := by
  have hd : ∀ c, l.head? = some c → ¬ (48 ≤ c.toNat ∧ c.toNat ≤ 57) := fun c hc => by have := h c (List.mem_of_mem_head? hc); omega
  constructor <;> intro hw <;> rw [until_word hd, hw] <;> rfl
theorem tab_cell (W : World) (t : TypeId) (ls : List (List UInt8)) (i : Nat) (h : i < ls.length) : (W.alloc (.cells (strV ls).toArray t)).cell? ⟨W.heap.size, i, none⟩ = some (.string ⟨(ls.getD i []).toArray⟩) := by
  refine (Blk.new' W t _ rfl).cell_ ?_
  simp [strV, List.getElem?_eq_getElem h, List.getD]
theorem tab_cell' {W : World} {g : Nat} {t : TypeId} (ls : List (List UInt8)) (i : Nat) (h : i < ls.length) (hB : Blk W g t (strV ls).toArray) : W.cell? ⟨g, i, none⟩ = some (.string ⟨(ls.getD i []).toArray⟩) := by
  refine hB.cell_ ?_
  simp [strV, List.getElem?_eq_getElem h, List.getD]
theorem clock_with {x b : Int} {c : UInt8} (h : -604799 ≤ x ∧ x ≤ 604799) (hc : baseOf c.toNat = some b) : clockR (offTx x ++ [c]) = ((x, b), 0) := by
  have hcut : cutR (offTx x ++ [c]) = (offTx x, b) := by
    rw [cutR]
    simp [hc]
  rw [clockR, hcut, off_back h]; rfl
theorem clock_cut (hs : Int) (c : UInt8) : ((⟨(clockT hs 2).toArray⟩ : ByteArray).extract 0 ((⟨(clockT hs 2).toArray⟩ : ByteArray).size - 1) ++ ⟨[c].toArray⟩ : ByteArray).data.toList = offTx hs ++ [c] := by
  have hT : clockT hs 2 = offTx hs ++ [117] := rfl
  have hz : (⟨(clockT hs 2).toArray⟩ : ByteArray).size = (offTx hs).length + 1 := by show (clockT hs 2).length = _; rw [hT]; simp
  rw [hz, hT]
  simp [ByteArray.data_append, ByteArray.data_extract]
theorem rule_of {r : RuleP} {f0 f1 f2 f4 f5 f6 f7 f8 : List UInt8} (e0 : setR f0 = (r.name, 0)) (e1 : yearR f1 = (r.frm, 0)) (e2 : untilR f2 r.frm = (r.til, 0)) (e4 : wordR monthL 1 f4 = (r.mon, 0)) (e5 : parseR f5 = (r.day, 0)) (e6 : clockR f6 = (r.hour, 0)) (e7 : offParseR f7 = (r.save, 0)) (e8 : letterR f8 = (r.lett, 0)) : ruleR [f0, f1, f2, [45], f4, f5, f6, f7, f8] = (r, 0) := by
  simp only [ruleR, errsR, uptoR, e0, e1, e2, e4, e5, e6, e7, e8, firstE, if_true]
  rfl
theorem wparse {r : RuleP} (h : RuleRight r) (W : World) (hT : RTabs W) (g cap : Nat) (u lm cl : List UInt8) (hu : untilR u r.frm = (r.til, 0)) (hul : u.length ≤ 30) (hm : wordR monthL 1 lm = (r.mon, 0)) (hml : lm.length ≤ 30) (hcl : clockR cl = (r.hour, 0)) (hcll : cl.length ≤ 40)
    (hrow : StrRow W g 1 [r.name, Lib.itoa r.frm, u, [45], lm, dayText r.day.1 r.day.2.1 r.day.2.2, cl, offTx r.save, lettT r.lett]) :
    Calls Tryz.prog 11 #[.slice (some ⟨g, 1, none⟩) 9 cap] W fun e w' => e = .returned (.tuple #[ruleV r, .int .i64 0]) ∧ Below W.heap.size W w' := by
  have hf := fields_len h
  have hp := ruleParse_any g 1 9 cap _ W hT hrow rfl (fun l hl => by
    simp only [List.mem_cons, List.not_mem_nil, or_false] at hl
    rcases hl with rfl | rfl | rfl | rfl | rfl | rfl | rfl | rfl | rfl
    · exact Nat.le_trans (hf _ (by simp [ruleFs])) (by decide)
    · exact Nat.le_trans (hf _ (by simp [ruleFs])) (by decide)
    · omega
    · decide
    · omega
    · exact Nat.le_trans (hf _ (by simp [ruleFs])) (by decide)
    · omega
    · exact Nat.le_trans (hf _ (by simp [ruleFs])) (by decide)
    · exact Nat.le_trans (hf _ (by simp [ruleFs])) (by decide))
  rw [rule_of (r := r) (set_back h.name) (year_back h.frm) hu hm (day_back h.day).1 hcl (off_back h.save) (lett_back h.lett)] at hp
  exact hp

set_option maxHeartbeats 1000000 in
theorem rwords_any (d : DraftP) (hd : d.Ok) (bt c : Nat) (hbt : bt < 65536) (hc : c < 256) (w : World) (hT : RTabs w) :
    Calls Tryz.prog 7 #[.agg d.cells, .int .u16 (bt : Int), .int .u8 (c : Int)] w fun e w' => e = .returned (.bool true) ∧ Below w.heap.size w w' := by
  have HM := fun W => d.made_any hd W
  have hr := d.right
  have HT : ∀ W, Below w.heap.size w W → RTabs W := fun W hW => hT.below hW
  have hD : (Tryz.prog.info? 41).map (·.size) = some d.cells.size := infoDraft
  generalize d.made = r at *
  obtain ⟨nm, fr, tl, mo, ⟨dk, dw, dd⟩, ⟨hs, hb⟩, sv, lt⟩ := r
  obtain ⟨i, hi12, rfl⟩ : ∃ i : Nat, i < 12 ∧ mo = (i : Int) + 1 := ⟨(mo - 1).toNat, by have := hr.mon; simp only at this; omega, by have := hr.mon; simp only at this; omega⟩
  obtain ⟨sn, rfl⟩ : ∃ sn : ByteArray, nm = sn.data.toList := ⟨⟨nm.toArray⟩, by simp⟩
  obtain ⟨sl, rfl⟩ : ∃ sl : ByteArray, lt = sl.data.toList := ⟨⟨lt.toArray⟩, by simp⟩
  have hfr : 1850 ≤ fr ∧ fr ≤ 2149 := of_decide_eq_true hr.frm
  have hck := hr.hour
  simp only [clockOk, Bool.and_eq_true, decide_eq_true_eq] at hck
  obtain ⟨q, hq4, hqI⟩ : ∃ q : Nat, q < 4 ∧ (c : Int) / 2 % 4 = (q : Int) := ⟨c / 2 % 4, by omega, by omega⟩
  obtain ⟨p, hp3, hpI⟩ : ∃ p : Nat, p < 3 ∧ (c : Int) % 3 = (p : Int) := ⟨c % 3, by omega, by omega⟩
  have hm := cap_fin ⟨i, hi12⟩
  have ho := onl_fin ⟨q, hq4⟩
  have hx := maxi_fin ⟨q, hq4⟩
  obtain ⟨sc, hg, hgb⟩ := gzu_fin ⟨p, hp3⟩
  simp only at hm ho hx hg
  have hlen := fields_len hr
  have hl6 : (clockT hs hb).length ≤ 30 := hlen _ (by simp [ruleFs])
  have hl2 : (lastT fr tl).length ≤ 30 := hlen _ (by simp [ruleFs])
  have hl1 : (Lib.itoa fr).length ≤ 30 := hlen _ (by simp [ruleFs])
  have HTm : ∀ W, Calls Tryz.prog 17 #[.string ⟨(capL.getD i []).toArray⟩, .int .u16 (bt : Int)] W fun e w' => (∃ l : List UInt8, e = .returned (.string ⟨l.toArray⟩) ∧ Hid (wordR monthL 1 l = ((i : Int) + 1, 0) ∧ l.length ≤ 30)) ∧ Below W.heap.size W w' := fun W =>
    (turned_any ⟨(capL.getD i []).toArray⟩ bt W (Nat.le_trans hm.2.1 (by decide)) hbt (lets_of hm.1)).mono fun e w' ⟨⟨l, he, h1, h2, h3⟩, hb⟩ => ⟨⟨l, he, Lib.hid ⟨(wordR_small h2).trans hm.2.2, Nat.le_trans (Nat.le_of_eq h1) hm.2.1⟩⟩, hb⟩
  have HTo : ∀ W, Calls Tryz.prog 17 #[.string ⟨(onlL.getD q []).toArray⟩, .int .u16 (bt : Int)] W fun e w' => (∃ l : List UInt8, e = .returned (.string ⟨l.toArray⟩) ∧ Hid (untilR l fr = (fr, 0) ∧ l.length ≤ 30)) ∧ Below W.heap.size W w' := fun W =>
    (turned_any ⟨(onlL.getD q []).toArray⟩ bt W (Nat.le_trans ho.2.1 (by decide)) hbt (lets_of ho.1)).mono fun e w' ⟨⟨l, he, h1, h2, h3⟩, hb⟩ => ⟨⟨l, he, Lib.hid ⟨(until_turn fr h3).1 ((wordR_small h2).trans ho.2.2), Nat.le_trans (Nat.le_of_eq h1) ho.2.1⟩⟩, hb⟩
  have HTx : ∀ W, Calls Tryz.prog 17 #[.string ⟨(maxiL.getD q []).toArray⟩, .int .u16 (bt : Int)] W fun e w' => (∃ l : List UInt8, e = .returned (.string ⟨l.toArray⟩) ∧ Hid (untilR l fr = (1048576, 0) ∧ l.length ≤ 30)) ∧ Below W.heap.size W w' := fun W =>
    (turned_any ⟨(maxiL.getD q []).toArray⟩ bt W (Nat.le_trans hx.2.1 (by decide)) hbt (lets_of hx.1)).mono fun e w' ⟨⟨l, he, h1, h2, h3⟩, hb⟩ => ⟨⟨l, he, Lib.hid ⟨(until_turn fr h3).2 ((wordR_small h2).trans hx.2.2), Nat.le_trans (Nat.le_of_eq h1) hx.2.1⟩⟩, hb⟩
  have HP := fun W (hW : Below w.heap.size w W) => print_right _ hr W (HT W hW)
  have HWo : ∀ W, Below w.heap.size w W → Calls Tryz.prog 16 #[.string ⟨(ruleT ⟨sn.data.toList, fr, tl, (i : Int) + 1, ⟨dk, dw, dd⟩, ⟨hs, hb⟩, sv, sl.data.toList⟩).toArray⟩] W fun e w' => (∃ g cap, e = .returned (.slice (some ⟨g, 0, none⟩) 10 cap) ∧ 10 ≤ cap ∧ W.heap.size ≤ g ∧ Hid (WRow w' g (ruleFs ⟨sn.data.toList, fr, tl, (i : Int) + 1, ⟨dk, dw, dd⟩, ⟨hs, hb⟩, sv, sl.data.toList⟩))) ∧ Below W.heap.size W w' := fun W hW =>
    (words_cells _ hr W).mono fun e w' ⟨⟨g, cap, C, h1, h2, h3, h4, h5, h6, h7⟩, hb⟩ => ⟨⟨g, cap, h1, h2, h4, Lib.hid ⟨h5.lt, fun j hj => ⟨by
      have := h7 (1 + j) (by omega)
      rw [Nat.add_comm 1 j] at this ⊢
      exact (h5.cell_ this), h5.frozen _⟩⟩⟩, hb⟩
  have HPa := fun W g cap u lm cl (hW : Below w.heap.size w W) hu hul hm hml hcl hcll hrow => wparse hr W (HT W hW) g cap u lm cl hu hul hm hml hcl hcll hrow
  have HW := fun W (hW : Below w.heap.size w W) => rworks_any W (HT W hW)
  generalize d.cells = D at *
  have htl := hr.til
  clear hr HT hlen
  have hbb : hb = 0 ∨ hb = 1 ∨ hb = 2 := by omega
  by_cases hft : tl = fr
  · have hft2 := hft.symm
    subst hft2
    have hu0 : untilR (Lib.itoa fr) fr = (fr, 0) := until_dec fr (decide_eq_true hfr)
    by_cases hwh : ((c : Int) % 2 == 0) = true
    · rcases hbb with rfl | rfl | rfl
      · exact rw_00 D sn sl fr dk dw dd hs sv _ ⟨(clockT hs 0).toArray⟩ _ _ _ _ _ _ _ _ bt c i _ w hi12 hbt hc hD (Lib.hid HM) (Lib.hid HP) (Lib.hid HWo) (fun W => tab_cell W _ capL i hi12) (Lib.hid HTm) (Lib.hid HW) hwh hl6 (Lib.hid fun W g cap lm hW h1 h2 hrow => HPa W g cap _ lm _ hW hu0 hl1 h1 h2 (by rw [(show (⟨(clockT hs 0).toArray⟩ ++ ⟨#[119]⟩ : ByteArray).data.toList = offTx hs ++ [119] by simp [clockT, offTx])]; exact clock_with hck.1 rfl) (by rw [(show (⟨(clockT hs 0).toArray⟩ ++ ⟨#[119]⟩ : ByteArray).data.toList = offTx hs ++ [119] by simp [clockT, offTx])]; have := off_len hck.1; simp; omega) hrow)
      · exact rw_01 D sn sl fr dk dw dd hs sv _ ⟨(clockT hs 1).toArray⟩ _ _ _ _ _ _ _ _ bt c i _ w hi12 hbt hc hD (Lib.hid HM) (Lib.hid HP) (Lib.hid HWo) (fun W => tab_cell W _ capL i hi12) (Lib.hid HTm) (Lib.hid HW) hwh (Lib.hid fun W g cap lm hW h1 h2 hrow => HPa W g cap _ lm _ hW hu0 hl1 h1 h2 (clock_back (x := hs) (b := 1) (by simp [clockOk]; omega)) (Nat.le_trans hl6 (by decide)) hrow)
      · exact rw_02 D sn sl fr dk dw dd hs sv _ ⟨(clockT hs 2).toArray⟩ _ _ _ _ _ _ _ _ bt c i _ w hi12 hbt hc hD (Lib.hid HM) (Lib.hid HP) (Lib.hid HWo) (fun W => tab_cell W _ capL i hi12) (Lib.hid HTm) (Lib.hid HW) hwh p hp3 hpI _ (Lib.hid fun W g hB => tab_cell' gzuL p hp3 hB) (by show (gzuL.getD p []).length ≤ 1; rw [hg]; exact Nat.le_refl _) (by show 1 ≤ (clockT hs 2).length; simp [clockT]; omega) hl6 (Lib.hid fun W g cap lm hW h1 h2 hrow => HPa W g cap _ lm _ hW hu0 hl1 h1 h2 (by rw [(show ((⟨(clockT hs 2).toArray⟩ : ByteArray).extract 0 ((⟨(clockT hs 2).toArray⟩ : ByteArray).size - 1) ++ ⟨(gzuL.getD p []).toArray⟩ : ByteArray).data.toList = offTx hs ++ [sc] by rw [hg]; exact clock_cut hs sc)]; exact clock_with hck.1 hgb) (by rw [(show ((⟨(clockT hs 2).toArray⟩ : ByteArray).extract 0 ((⟨(clockT hs 2).toArray⟩ : ByteArray).size - 1) ++ ⟨(gzuL.getD p []).toArray⟩ : ByteArray).data.toList = offTx hs ++ [sc] by rw [hg]; exact clock_cut hs sc)]; have := off_len hck.1; simp; omega) hrow)
    · replace hwh := Bool.eq_false_iff.2 hwh
      rcases hbb with rfl | rfl | rfl
      · exact rw_10 D sn sl fr dk dw dd hs sv _ ⟨(clockT hs 0).toArray⟩ _ _ _ _ _ _ _ _ bt c i _ w hi12 hbt hc hD (Lib.hid HM) (Lib.hid HP) (Lib.hid HWo) (fun W => tab_cell W _ capL i hi12) (Lib.hid HTm) (Lib.hid HW) hwh q hq4 hqI _ (fun W => tab_cell W _ onlL q hq4) (Lib.hid HTo) hl6 (Lib.hid fun W g cap lm lu hW h1 h2 h3 h4 hrow => HPa W g cap _ lm _ hW h3 h4 h1 h2 (by rw [(show (⟨(clockT hs 0).toArray⟩ ++ ⟨#[119]⟩ : ByteArray).data.toList = offTx hs ++ [119] by simp [clockT, offTx])]; exact clock_with hck.1 rfl) (by rw [(show (⟨(clockT hs 0).toArray⟩ ++ ⟨#[119]⟩ : ByteArray).data.toList = offTx hs ++ [119] by simp [clockT, offTx])]; have := off_len hck.1; simp; omega) hrow)
      · exact rw_11 D sn sl fr dk dw dd hs sv _ ⟨(clockT hs 1).toArray⟩ _ _ _ _ _ _ _ _ bt c i _ w hi12 hbt hc hD (Lib.hid HM) (Lib.hid HP) (Lib.hid HWo) (fun W => tab_cell W _ capL i hi12) (Lib.hid HTm) (Lib.hid HW) hwh q hq4 hqI _ (fun W => tab_cell W _ onlL q hq4) (Lib.hid HTo) (Lib.hid fun W g cap lm lu hW h1 h2 h3 h4 hrow => HPa W g cap _ lm _ hW h3 h4 h1 h2 (clock_back (x := hs) (b := 1) (by simp [clockOk]; omega)) (Nat.le_trans hl6 (by decide)) hrow)
      · exact rw_12 D sn sl fr dk dw dd hs sv _ ⟨(clockT hs 2).toArray⟩ _ _ _ _ _ _ _ _ bt c i _ w hi12 hbt hc hD (Lib.hid HM) (Lib.hid HP) (Lib.hid HWo) (fun W => tab_cell W _ capL i hi12) (Lib.hid HTm) (Lib.hid HW) hwh q hq4 hqI _ (fun W => tab_cell W _ onlL q hq4) (Lib.hid HTo) p hp3 hpI _ (Lib.hid fun W g hB => tab_cell' gzuL p hp3 hB) (by show (gzuL.getD p []).length ≤ 1; rw [hg]; exact Nat.le_refl _) (by show 1 ≤ (clockT hs 2).length; simp [clockT]; omega) hl6 (Lib.hid fun W g cap lm lu hW h1 h2 h3 h4 hrow => HPa W g cap _ lm _ hW h3 h4 h1 h2 (by rw [(show ((⟨(clockT hs 2).toArray⟩ : ByteArray).extract 0 ((⟨(clockT hs 2).toArray⟩ : ByteArray).size - 1) ++ ⟨(gzuL.getD p []).toArray⟩ : ByteArray).data.toList = offTx hs ++ [sc] by rw [hg]; exact clock_cut hs sc)]; exact clock_with hck.1 hgb) (by rw [(show ((⟨(clockT hs 2).toArray⟩ : ByteArray).extract 0 ((⟨(clockT hs 2).toArray⟩ : ByteArray).size - 1) ++ ⟨(gzuL.getD p []).toArray⟩ : ByteArray).data.toList = offTx hs ++ [sc] by rw [hg]; exact clock_cut hs sc)]; have := off_len hck.1; simp; omega) hrow)
  · by_cases hfm : tl = 1048576
    · subst hfm
      have hft : ((1048576 : Int) == fr) = false := beq_eq_false_iff_ne.2 hft
      rcases hbb with rfl | rfl | rfl
      · exact rw_20 D sn sl fr dk dw dd hs sv _ ⟨(clockT hs 0).toArray⟩ _ _ _ _ _ _ _ _ bt c i _ w hi12 hbt hc hD (Lib.hid HM) (Lib.hid HP) (Lib.hid HWo) (fun W => tab_cell W _ capL i hi12) (Lib.hid HTm) (Lib.hid HW) q hq4 hqI _ (fun W => tab_cell W _ maxiL q hq4) (Lib.hid HTx) hft hl6 (Lib.hid fun W g cap lm lu hW h1 h2 h3 h4 hrow => HPa W g cap _ lm _ hW h3 h4 h1 h2 (by rw [(show (⟨(clockT hs 0).toArray⟩ ++ ⟨#[119]⟩ : ByteArray).data.toList = offTx hs ++ [119] by simp [clockT, offTx])]; exact clock_with hck.1 rfl) (by rw [(show (⟨(clockT hs 0).toArray⟩ ++ ⟨#[119]⟩ : ByteArray).data.toList = offTx hs ++ [119] by simp [clockT, offTx])]; have := off_len hck.1; simp; omega) hrow)
      · exact rw_21 D sn sl fr dk dw dd hs sv _ ⟨(clockT hs 1).toArray⟩ _ _ _ _ _ _ _ _ bt c i _ w hi12 hbt hc hD (Lib.hid HM) (Lib.hid HP) (Lib.hid HWo) (fun W => tab_cell W _ capL i hi12) (Lib.hid HTm) (Lib.hid HW) q hq4 hqI _ (fun W => tab_cell W _ maxiL q hq4) (Lib.hid HTx) hft (Lib.hid fun W g cap lm lu hW h1 h2 h3 h4 hrow => HPa W g cap _ lm _ hW h3 h4 h1 h2 (clock_back (x := hs) (b := 1) (by simp [clockOk]; omega)) (Nat.le_trans hl6 (by decide)) hrow)
      · exact rw_22 D sn sl fr dk dw dd hs sv _ ⟨(clockT hs 2).toArray⟩ _ _ _ _ _ _ _ _ bt c i _ w hi12 hbt hc hD (Lib.hid HM) (Lib.hid HP) (Lib.hid HWo) (fun W => tab_cell W _ capL i hi12) (Lib.hid HTm) (Lib.hid HW) q hq4 hqI _ (fun W => tab_cell W _ maxiL q hq4) (Lib.hid HTx) hft p hp3 hpI _ (Lib.hid fun W g hB => tab_cell' gzuL p hp3 hB) (by show (gzuL.getD p []).length ≤ 1; rw [hg]; exact Nat.le_refl _) (by show 1 ≤ (clockT hs 2).length; simp [clockT]; omega) hl6 (Lib.hid fun W g cap lm lu hW h1 h2 h3 h4 hrow => HPa W g cap _ lm _ hW h3 h4 h1 h2 (by rw [(show ((⟨(clockT hs 2).toArray⟩ : ByteArray).extract 0 ((⟨(clockT hs 2).toArray⟩ : ByteArray).size - 1) ++ ⟨(gzuL.getD p []).toArray⟩ : ByteArray).data.toList = offTx hs ++ [sc] by rw [hg]; exact clock_cut hs sc)]; exact clock_with hck.1 hgb) (by rw [(show ((⟨(clockT hs 2).toArray⟩ : ByteArray).extract 0 ((⟨(clockT hs 2).toArray⟩ : ByteArray).size - 1) ++ ⟨(gzuL.getD p []).toArray⟩ : ByteArray).data.toList = offTx hs ++ [sc] by rw [hg]; exact clock_cut hs sc)]; have := off_len hck.1; simp; omega) hrow)
    · have hu3 : untilR (lastT fr tl) fr = (tl, 0) := until_back htl
      replace hft : (tl == fr) = false := beq_eq_false_iff_ne.2 hft
      replace hfm : (tl == 1048576) = false := beq_eq_false_iff_ne.2 hfm
      rcases hbb with rfl | rfl | rfl
      · exact rw_30 D sn sl fr tl dk dw dd hs sv _ ⟨(clockT hs 0).toArray⟩ _ _ _ _ _ _ _ _ bt c i _ w hi12 hbt hc hD (Lib.hid HM) (Lib.hid HP) (Lib.hid HWo) (fun W => tab_cell W _ capL i hi12) (Lib.hid HTm) (Lib.hid HW) hft hfm hl6 (Lib.hid fun W g cap lm hW h1 h2 hrow => HPa W g cap _ lm _ hW hu3 hl2 h1 h2 (by rw [(show (⟨(clockT hs 0).toArray⟩ ++ ⟨#[119]⟩ : ByteArray).data.toList = offTx hs ++ [119] by simp [clockT, offTx])]; exact clock_with hck.1 rfl) (by rw [(show (⟨(clockT hs 0).toArray⟩ ++ ⟨#[119]⟩ : ByteArray).data.toList = offTx hs ++ [119] by simp [clockT, offTx])]; have := off_len hck.1; simp; omega) hrow)
      · exact rw_31 D sn sl fr tl dk dw dd hs sv _ ⟨(clockT hs 1).toArray⟩ _ _ _ _ _ _ _ _ bt c i _ w hi12 hbt hc hD (Lib.hid HM) (Lib.hid HP) (Lib.hid HWo) (fun W => tab_cell W _ capL i hi12) (Lib.hid HTm) (Lib.hid HW) hft hfm (Lib.hid fun W g cap lm hW h1 h2 hrow => HPa W g cap _ lm _ hW hu3 hl2 h1 h2 (clock_back (x := hs) (b := 1) (by simp [clockOk]; omega)) (Nat.le_trans hl6 (by decide)) hrow)
      · exact rw_32 D sn sl fr tl dk dw dd hs sv _ ⟨(clockT hs 2).toArray⟩ _ _ _ _ _ _ _ _ bt c i _ w hi12 hbt hc hD (Lib.hid HM) (Lib.hid HP) (Lib.hid HWo) (fun W => tab_cell W _ capL i hi12) (Lib.hid HTm) (Lib.hid HW) hft hfm p hp3 hpI _ (Lib.hid fun W g hB => tab_cell' gzuL p hp3 hB) (by show (gzuL.getD p []).length ≤ 1; rw [hg]; exact Nat.le_refl _) (by show 1 ≤ (clockT hs 2).length; simp [clockT]; omega) hl6 (Lib.hid fun W g cap lm hW h1 h2 hrow => HPa W g cap _ lm _ hW hu3 hl2 h1 h2 (by rw [(show ((⟨(clockT hs 2).toArray⟩ : ByteArray).extract 0 ((⟨(clockT hs 2).toArray⟩ : ByteArray).size - 1) ++ ⟨(gzuL.getD p []).toArray⟩ : ByteArray).data.toList = offTx hs ++ [sc] by rw [hg]; exact clock_cut hs sc)]; exact clock_with hck.1 hgb) (by rw [(show ((⟨(clockT hs 2).toArray⟩ : ByteArray).extract 0 ((⟨(clockT hs 2).toArray⟩ : ByteArray).size - 1) ++ ⟨(gzuL.getD p []).toArray⟩ : ByteArray).data.toList = offTx hs ++ [sc] by rw [hg]; exact clock_cut hs sc)]; have := off_len hck.1; simp; omega) hrow)
end Go.Proofs.YtgfnnmdngckmmaaGreatDoor
