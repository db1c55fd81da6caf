/-
  The document's layer 11: end.
  The document's layer 11: Parse.
-/
import Derived.Test.YtbdmieelokmhiaaGreatDoorRefEraA
set_option linter.unusedVariables false
set_option linter.unusedSimpArgs false
namespace Go.Proofs.YtbdmieelokmhiaaGreatDoor
open Go.RowKit

theorem infoU : (Tryz.prog.info? 29).map (·.size) = some 8 := by kernel_rfl
def EndC (l : List (List UInt8)) (e : Ending) : Prop := ∃ C : Array Value, e = .returned (.tuple #[.agg C, .int .i64 (endR_ l).2]) ∧ C.size = 8 ∧ C.all (·.oneCell') = true ∧ ((endR_ l).2 = 0 → C = (endR_ l).1.arr)
theorem EndC.bad {l : List (List UInt8)} {e : Ending} (C : Array Value) (x : Int) (hx : (endR_ l).2 = x) (h0 : x ≠ 0) (he : e = .returned (.tuple #[.agg C, .int .i64 x])) (hs : C.size = 8) (h1 : C.all (·.oneCell') = true) : EndC l e :=
  ⟨C, by rw [hx]; exact he, hs, h1, fun h => absurd (hx ▸ h) h0⟩
theorem UntilP.arr_one (u : UntilP) : u.arr.all (·.oneCell') = true := by simp [UntilP.arr, Value.oneCell']
theorem EndC.good {l : List (List UInt8)} {u : UntilP} {C : Array Value} (h : endR_ l = (u, 0)) (hC : C = u.arr) : EndC l (.returned (.tuple #[.agg C, .int .i64 0])) :=
  ⟨C, by rw [h], by rw [hC]; rfl, by rw [hC]; exact u.arr_one, fun _ => by rw [h]; exact hC⟩

set_option maxRecDepth 100000 in
set_option maxHeartbeats 2000000 in
theorem r11end1 (b o c : Nat) (s0 : ByteArray) (w : World) (hb : b < w.heap.size) (hs0 : s0.size ≤ 1048576)
    (c0 : w.cell? ⟨b, o + 0, none⟩ = some (.string s0)) :
    Calls Tryz.prog 25 #[.slice (some ⟨b, o, none⟩) 1 c] w fun e w' => EndC [s0.data.toList] e ∧ Below w.heap.size w w' := by
  have HRow := Lib.hid (show ∀ W, Below w.heap.size w W → W.cell? ⟨b, o, none⟩ = some (.string s0) from fun W hW => (hW.cell (p := ⟨b, o + 0, none⟩) hb).trans c0)
  obtain ⟨EE, hEE⟩ : ∃ EE, endR_ [s0.data.toList] = EE := ⟨_, rfl⟩
  have HEE := Lib.hid hEE
  unfold endR_ at hEE
  simp only [List.getD_cons_zero, List.getD_cons_succ, List.length_cons, List.length_nil] at hEE
  have HY := Lib.hid (fun W => calls_flip (r11year_any s0 W hs0))
  clear c0
  have HB0 := Lib.hid (show Blk ((w.alloc (.cells #[.bool false, .int .i64 0, .int .i64 0, .int .i64 0, .int .i64 0, .int .i64 0, .int .i64 0, .int .i64 0] 29)).alloc (.cells #[.bool true, .int .i64 0, .int .i64 1, .int .i64 1, .int .i64 0, .int .i64 1, .int .i64 0, .int .i64 0] 29)) w.heap.size 29 #[.bool false, .int .i64 0, .int .i64 0, .int .i64 0, .int .i64 0, .int .i64 0, .int .i64 0, .int .i64 0] ∧ Blk ((w.alloc (.cells #[.bool false, .int .i64 0, .int .i64 0, .int .i64 0, .int .i64 0, .int .i64 0, .int .i64 0, .int .i64 0] 29)).alloc (.cells #[.bool true, .int .i64 0, .int .i64 1, .int .i64 1, .int .i64 0, .int .i64 1, .int .i64 0, .int .i64 0] 29)) (w.heap.size + 1) 29 #[.bool true, .int .i64 0, .int .i64 1, .int .i64 1, .int .i64 0, .int .i64 1, .int .i64 0, .int .i64 0] ∧ Below w.heap.size w ((w.alloc (.cells #[.bool false, .int .i64 0, .int .i64 0, .int .i64 0, .int .i64 0, .int .i64 0, .int .i64 0, .int .i64 0] 29)).alloc (.cells #[.bool true, .int .i64 0, .int .i64 1, .int .i64 1, .int .i64 0, .int .i64 1, .int .i64 0, .int .i64 0] 29)) from ⟨(Blk.new' _ _ _ rfl).alloc _, Blk.new' _ _ _ (by simp), by go_grown⟩)
  generalize yearR s0.data.toList = p0 at *
  obtain ⟨yr, e0⟩ := p0
  have k0 := HRow.out _ HB0.out.2.2
  go_enter Tryz.func25, Tryz.ntmps25
  go_wp2_with fail
  refine (HY.out _).mono ?_
  rintro e w1 ⟨rfl, rfl⟩
  by_cases hx : e0 ≠ 0
  · rw [if_pos hx] at hEE
    have hx2 : (e0 != 0) = true := bne_iff_ne.2 hx
    have HX := Lib.hid (show (endR_ [s0.data.toList]).2 = e0 ∧ e0 ≠ 0 by rw [HEE.out, ← hEE]; exact ⟨rfl, hx⟩)
    clear hx hEE k0
    go_wp2_with fail
    refine bodyPost_ret (by simp [results, Tryz.results25, go_sem]; rfl) rfl ⟨EndC.bad _ _ HX.out.1 HX.out.2 rfl rfl (by simp [Value.oneCell']), ?_⟩
    go_grown
  rw [if_neg hx] at hEE
  obtain rfl : e0 = 0 := by simpa using hx
  clear hx k0
  rw [if_neg (by simp), if_neg (by simp), if_neg (by simp)] at hEE
  have HX := Lib.hid (HEE.out.trans hEE.symm)
  clear hEE
  go_wp2_with fail
  refine bodyPost_ret (by simp [results, Tryz.results25, go_sem]; rfl) rfl ⟨EndC.good HX.out (by simp [UntilP.arr]) , ?_⟩
  go_grown

set_option maxRecDepth 100000 in
set_option maxHeartbeats 2000000 in
theorem r11end2 (b o c : Nat) (s0 s1 : ByteArray) (w : World) (hb : b < w.heap.size) (hs0 : s0.size ≤ 1048576) (hs1 : s1.size ≤ 1048576)
    (c0 : w.cell? ⟨b, o + 0, none⟩ = some (.string s0)) (c1 : w.cell? ⟨b, o + 1, none⟩ = some (.string s1)) :
    Calls Tryz.prog 25 #[.slice (some ⟨b, o, none⟩) 2 c] w fun e w' => EndC [s0.data.toList, s1.data.toList] e ∧ Below w.heap.size w w' := by
  have HRow := Lib.hid (show ∀ W, Below w.heap.size w W → W.cell? ⟨b, o, none⟩ = some (.string s0) ∧ W.cell? ⟨b, o + 1, none⟩ = some (.string s1) from fun W hW => ⟨(hW.cell (p := ⟨b, o + 0, none⟩) hb).trans c0, (hW.cell (p := ⟨b, o + 1, none⟩) hb).trans c1⟩)
  obtain ⟨EE, hEE⟩ : ∃ EE, endR_ [s0.data.toList, s1.data.toList] = EE := ⟨_, rfl⟩
  have HEE := Lib.hid hEE
  unfold endR_ at hEE
  simp only [List.getD_cons_zero, List.getD_cons_succ, List.length_cons, List.length_nil] at hEE
  have HY := Lib.hid (fun W => calls_flip (r11year_any s0 W hs0))
  have HM := Lib.hid (fun W => rmonth_any s1 W hs1)
  clear c0 c1
  have HB0 := Lib.hid (show Blk ((w.alloc (.cells #[.bool false, .int .i64 0, .int .i64 0, .int .i64 0, .int .i64 0, .int .i64 0, .int .i64 0, .int .i64 0] 29)).alloc (.cells #[.bool true, .int .i64 0, .int .i64 1, .int .i64 1, .int .i64 0, .int .i64 1, .int .i64 0, .int .i64 0] 29)) w.heap.size 29 #[.bool false, .int .i64 0, .int .i64 0, .int .i64 0, .int .i64 0, .int .i64 0, .int .i64 0, .int .i64 0] ∧ Blk ((w.alloc (.cells #[.bool false, .int .i64 0, .int .i64 0, .int .i64 0, .int .i64 0, .int .i64 0, .int .i64 0, .int .i64 0] 29)).alloc (.cells #[.bool true, .int .i64 0, .int .i64 1, .int .i64 1, .int .i64 0, .int .i64 1, .int .i64 0, .int .i64 0] 29)) (w.heap.size + 1) 29 #[.bool true, .int .i64 0, .int .i64 1, .int .i64 1, .int .i64 0, .int .i64 1, .int .i64 0, .int .i64 0] ∧ Below w.heap.size w ((w.alloc (.cells #[.bool false, .int .i64 0, .int .i64 0, .int .i64 0, .int .i64 0, .int .i64 0, .int .i64 0, .int .i64 0] 29)).alloc (.cells #[.bool true, .int .i64 0, .int .i64 1, .int .i64 1, .int .i64 0, .int .i64 1, .int .i64 0, .int .i64 0] 29)) from ⟨(Blk.new' _ _ _ rfl).alloc _, Blk.new' _ _ _ (by simp), by go_grown⟩)
  generalize yearR s0.data.toList = p0 at *
  obtain ⟨yr, e0⟩ := p0
  obtain ⟨k0, -⟩ := HRow.out _ HB0.out.2.2
  go_enter Tryz.func25, Tryz.ntmps25
  go_wp2_with fail
  refine (HY.out _).mono ?_
  rintro e w1 ⟨rfl, rfl⟩
  by_cases hx : e0 ≠ 0
  · rw [if_pos hx] at hEE
    have hx2 : (e0 != 0) = true := bne_iff_ne.2 hx
    have HX := Lib.hid (show (endR_ [s0.data.toList, s1.data.toList]).2 = e0 ∧ e0 ≠ 0 by rw [HEE.out, ← hEE]; exact ⟨rfl, hx⟩)
    clear hx hEE k0
    go_wp2_with fail
    refine bodyPost_ret (by simp [results, Tryz.results25, go_sem]; rfl) rfl ⟨EndC.bad _ _ HX.out.1 HX.out.2 rfl rfl (by simp [Value.oneCell']), ?_⟩
    go_grown
  rw [if_neg hx] at hEE
  obtain rfl : e0 = 0 := by simpa using hx
  clear hx k0
  have HB1 := Lib.hid (show Blk ((w.alloc (.cells #[.bool false, .int .i64 0, .int .i64 0, .int .i64 0, .int .i64 0, .int .i64 0, .int .i64 0, .int .i64 0] 29)).alloc (.cells #[.bool true, .int .i64 yr, .int .i64 1, .int .i64 1, .int .i64 0, .int .i64 1, .int .i64 0, .int .i64 0] 29)) w.heap.size 29 #[.bool false, .int .i64 0, .int .i64 0, .int .i64 0, .int .i64 0, .int .i64 0, .int .i64 0, .int .i64 0] ∧ Blk ((w.alloc (.cells #[.bool false, .int .i64 0, .int .i64 0, .int .i64 0, .int .i64 0, .int .i64 0, .int .i64 0, .int .i64 0] 29)).alloc (.cells #[.bool true, .int .i64 yr, .int .i64 1, .int .i64 1, .int .i64 0, .int .i64 1, .int .i64 0, .int .i64 0] 29)) (w.heap.size + 1) 29 #[.bool true, .int .i64 yr, .int .i64 1, .int .i64 1, .int .i64 0, .int .i64 1, .int .i64 0, .int .i64 0] ∧ Below w.heap.size w ((w.alloc (.cells #[.bool false, .int .i64 0, .int .i64 0, .int .i64 0, .int .i64 0, .int .i64 0, .int .i64 0, .int .i64 0] 29)).alloc (.cells #[.bool true, .int .i64 yr, .int .i64 1, .int .i64 1, .int .i64 0, .int .i64 1, .int .i64 0, .int .i64 0] 29)) from ⟨(Blk.new' _ _ _ rfl).alloc _, Blk.new' _ _ _ (by simp), by go_grown⟩)
  clear HB0
  generalize wordR monthL 1 s1.data.toList = p1 at *
  obtain ⟨mo, e1⟩ := p1
  obtain ⟨-, k1⟩ := HRow.out _ HB1.out.2.2
  go_wp2_with fail
  refine (HM.out _).mono ?_
  rintro e w2 ⟨rfl, hb⟩
  have HC2 := Lib.hid (show Blk w2 w.heap.size 29 #[.bool false, .int .i64 0, .int .i64 0, .int .i64 0, .int .i64 0, .int .i64 0, .int .i64 0, .int .i64 0] ∧ Blk w2 (w.heap.size + 1) 29 #[.bool true, .int .i64 yr, .int .i64 1, .int .i64 1, .int .i64 0, .int .i64 1, .int .i64 0, .int .i64 0] ∧ Below w.heap.size w w2 from ⟨HB1.out.1.below hb HB1.out.1.lt, HB1.out.2.1.below hb HB1.out.2.1.lt, HB1.out.2.2.trans (hb.mono HB1.out.2.2.size)⟩)
  clear hb HB1 HM k1
  by_cases hx : e1 ≠ 0
  · rw [if_pos ⟨by simp, hx⟩] at hEE
    have hx2 : (e1 != 0) = true := bne_iff_ne.2 hx
    have HX := Lib.hid (show (endR_ [s0.data.toList, s1.data.toList]).2 = e1 ∧ e1 ≠ 0 by rw [HEE.out, ← hEE]; exact ⟨rfl, hx⟩)
    clear hx hEE
    obtain ⟨C, hCC⟩ : ∃ C : Array Value, #[.bool true, .int .i64 yr, .int .i64 1, .int .i64 1, .int .i64 0, .int .i64 1, .int .i64 0, .int .i64 0] = C := ⟨_, rfl⟩
    have Hi := Lib.hid (show (Tryz.prog.info? 29).map (·.size) = some C.size ∧ C.all (·.oneCell') = true ∧ C.size = 8 from hCC ▸ ⟨infoU, by simp [Value.oneCell'], rfl⟩)
    rw [hCC] at HC2
    clear hCC
    go_wp2_with (first
      | (refine wpList_load_row rfl 29 (.tmp 4) rfl (w.heap.size + 1) rfl 29 C (0, 0) _ HC2.out.2.1 Tryz.underlying29 rfl Hi.out.1 ?_)
      | (refine wpList_store_mid rfl 29 (.tmp 2) (.tmp 40) rfl w.heap.size 0 C rfl rfl (HC2.out.1.there (by rw [Hi.out.2.2]; decide)) Hi.out.1 Hi.out.2.1 ?_))
    exact bodyPost_ret (results_cell_tmp rfl _ _ w.heap.size 29 C _ _ rfl rfl (HC2.out.1.setAll C Hi.out.2.2) Tryz.underlying29 rfl Hi.out.1) rfl ⟨EndC.bad _ _ HX.out.1 HX.out.2 rfl Hi.out.2.2 Hi.out.2.1, below_sets (Nat.le_refl _) _ _ _ HC2.out.2.2⟩
  rw [if_neg (fun h => hx h.2)] at hEE
  obtain rfl : e1 = 0 := by simpa using hx
  clear hx
  have q2 : w2.cell? ⟨w.heap.size + 1, 2, none⟩ = some (.int .i64 1) := HC2.out.2.1.cell_ rfl
  have f2 := HC2.out.2.1.frozen 2
  have hlt := HC2.out.2.1.lt
  obtain ⟨w3, hw3⟩ : ∃ W, (w2.setCell ⟨w.heap.size + 1, 2, none⟩ (.int .i64 mo)) = W := ⟨_, rfl⟩
  have HC3 := Lib.hid (show Blk w3 w.heap.size 29 #[.bool false, .int .i64 0, .int .i64 0, .int .i64 0, .int .i64 0, .int .i64 0, .int .i64 0, .int .i64 0] ∧ Blk w3 (w.heap.size + 1) 29 #[.bool true, .int .i64 yr, .int .i64 mo, .int .i64 1, .int .i64 0, .int .i64 1, .int .i64 0, .int .i64 0] ∧ Below w.heap.size w w3 from by
    rw [← hw3]
    exact ⟨Blk.farSets HC2.out.1 (by simp) [.int .i64 mo] 2, Blk.setMid [.bool true, .int .i64 yr] [.int .i64 1] [.int .i64 mo] [.int .i64 1, .int .i64 0, .int .i64 1, .int .i64 0, .int .i64 0] HC2.out.2.1 rfl, below_sets (by omega) [.int .i64 mo] 2 _ HC2.out.2.2⟩)
  go_upto_region 21 with fail
  try simp only [hw3]
  clear hw3 HC2 q2 f2 hlt
  rw [if_neg (by simp), if_neg (by simp)] at hEE
  have HX := Lib.hid (HEE.out.trans hEE.symm)
  clear hEE
  obtain ⟨C, hCC⟩ : ∃ C : Array Value, #[.bool true, .int .i64 yr, .int .i64 mo, .int .i64 1, .int .i64 0, .int .i64 1, .int .i64 0, .int .i64 0] = C := ⟨_, rfl⟩
  have Hi := Lib.hid (show (Tryz.prog.info? 29).map (·.size) = some C.size ∧ C.all (·.oneCell') = true ∧ C.size = 8 from hCC ▸ ⟨infoU, by simp [Value.oneCell'], rfl⟩)
  rw [hCC] at HC3
  have HCC := Lib.hid hCC
  clear hCC
  go_wp2_with (first
    | (refine wpList_load_row rfl 29 (.tmp 4) rfl (w.heap.size + 1) rfl 29 C (0, 0) _ HC3.out.2.1 Tryz.underlying29 rfl Hi.out.1 ?_)
    | (refine wpList_store_mid rfl 29 (.tmp 2) (.tmp 76) rfl w.heap.size 0 C rfl rfl (HC3.out.1.there (by rw [Hi.out.2.2]; decide)) Hi.out.1 Hi.out.2.1 ?_))
  refine bodyPost_ret (results_cell_tmp rfl _ _ w.heap.size 29 C _ _ rfl rfl (HC3.out.1.setAll C Hi.out.2.2) Tryz.underlying29 rfl Hi.out.1) rfl ⟨EndC.good HX.out (by rw [← HCC.out]; simp [UntilP.arr]), below_sets (Nat.le_refl _) _ _ _ HC3.out.2.2⟩

set_option maxRecDepth 100000 in
set_option maxHeartbeats 2000000 in
theorem r11end3 (b o c : Nat) (s0 s1 s2 : ByteArray) (w : World) (hb : b < w.heap.size) (hs0 : s0.size ≤ 1048576) (hs1 : s1.size ≤ 1048576) (hs2 : s2.size ≤ 1048576)
    (c0 : w.cell? ⟨b, o + 0, none⟩ = some (.string s0)) (c1 : w.cell? ⟨b, o + 1, none⟩ = some (.string s1)) (c2 : w.cell? ⟨b, o + 2, none⟩ = some (.string s2)) :
    Calls Tryz.prog 25 #[.slice (some ⟨b, o, none⟩) 3 c] w fun e w' => EndC [s0.data.toList, s1.data.toList, s2.data.toList] e ∧ Below w.heap.size w w' := by
  have HRow := Lib.hid (show ∀ W, Below w.heap.size w W → W.cell? ⟨b, o, none⟩ = some (.string s0) ∧ W.cell? ⟨b, o + 1, none⟩ = some (.string s1) ∧ W.cell? ⟨b, o + 2, none⟩ = some (.string s2) from fun W hW => ⟨(hW.cell (p := ⟨b, o + 0, none⟩) hb).trans c0, (hW.cell (p := ⟨b, o + 1, none⟩) hb).trans c1, (hW.cell (p := ⟨b, o + 2, none⟩) hb).trans c2⟩)
  obtain ⟨EE, hEE⟩ : ∃ EE, endR_ [s0.data.toList, s1.data.toList, s2.data.toList] = EE := ⟨_, rfl⟩
  have HEE := Lib.hid hEE
  unfold endR_ at hEE
  simp only [List.getD_cons_zero, List.getD_cons_succ, List.length_cons, List.length_nil] at hEE
  have HY := Lib.hid (fun W => calls_flip (r11year_any s0 W hs0))
  have HM := Lib.hid (fun W => rmonth_any s1 W hs1)
  have HDy := Lib.hid (fun W => rparse_any s2 hs2 W)
  clear c0 c1 c2
  have HB0 := Lib.hid (show Blk ((w.alloc (.cells #[.bool false, .int .i64 0, .int .i64 0, .int .i64 0, .int .i64 0, .int .i64 0, .int .i64 0, .int .i64 0] 29)).alloc (.cells #[.bool true, .int .i64 0, .int .i64 1, .int .i64 1, .int .i64 0, .int .i64 1, .int .i64 0, .int .i64 0] 29)) w.heap.size 29 #[.bool false, .int .i64 0, .int .i64 0, .int .i64 0, .int .i64 0, .int .i64 0, .int .i64 0, .int .i64 0] ∧ Blk ((w.alloc (.cells #[.bool false, .int .i64 0, .int .i64 0, .int .i64 0, .int .i64 0, .int .i64 0, .int .i64 0, .int .i64 0] 29)).alloc (.cells #[.bool true, .int .i64 0, .int .i64 1, .int .i64 1, .int .i64 0, .int .i64 1, .int .i64 0, .int .i64 0] 29)) (w.heap.size + 1) 29 #[.bool true, .int .i64 0, .int .i64 1, .int .i64 1, .int .i64 0, .int .i64 1, .int .i64 0, .int .i64 0] ∧ Below w.heap.size w ((w.alloc (.cells #[.bool false, .int .i64 0, .int .i64 0, .int .i64 0, .int .i64 0, .int .i64 0, .int .i64 0, .int .i64 0] 29)).alloc (.cells #[.bool true, .int .i64 0, .int .i64 1, .int .i64 1, .int .i64 0, .int .i64 1, .int .i64 0, .int .i64 0] 29)) from ⟨(Blk.new' _ _ _ rfl).alloc _, Blk.new' _ _ _ (by simp), by go_grown⟩)
  generalize yearR s0.data.toList = p0 at *
  obtain ⟨yr, e0⟩ := p0
  obtain ⟨k0, -, -⟩ := HRow.out _ HB0.out.2.2
  go_enter Tryz.func25, Tryz.ntmps25
  go_wp2_with fail
  refine (HY.out _).mono ?_
  rintro e w1 ⟨rfl, rfl⟩
  by_cases hx : e0 ≠ 0
  · rw [if_pos hx] at hEE
    have hx2 : (e0 != 0) = true := bne_iff_ne.2 hx
    have HX := Lib.hid (show (endR_ [s0.data.toList, s1.data.toList, s2.data.toList]).2 = e0 ∧ e0 ≠ 0 by rw [HEE.out, ← hEE]; exact ⟨rfl, hx⟩)
    clear hx hEE k0
    go_wp2_with fail
    refine bodyPost_ret (by simp [results, Tryz.results25, go_sem]; rfl) rfl ⟨EndC.bad _ _ HX.out.1 HX.out.2 rfl rfl (by simp [Value.oneCell']), ?_⟩
    go_grown
  rw [if_neg hx] at hEE
  obtain rfl : e0 = 0 := by simpa using hx
  clear hx k0
  have HB1 := Lib.hid (show Blk ((w.alloc (.cells #[.bool false, .int .i64 0, .int .i64 0, .int .i64 0, .int .i64 0, .int .i64 0, .int .i64 0, .int .i64 0] 29)).alloc (.cells #[.bool true, .int .i64 yr, .int .i64 1, .int .i64 1, .int .i64 0, .int .i64 1, .int .i64 0, .int .i64 0] 29)) w.heap.size 29 #[.bool false, .int .i64 0, .int .i64 0, .int .i64 0, .int .i64 0, .int .i64 0, .int .i64 0, .int .i64 0] ∧ Blk ((w.alloc (.cells #[.bool false, .int .i64 0, .int .i64 0, .int .i64 0, .int .i64 0, .int .i64 0, .int .i64 0, .int .i64 0] 29)).alloc (.cells #[.bool true, .int .i64 yr, .int .i64 1, .int .i64 1, .int .i64 0, .int .i64 1, .int .i64 0, .int .i64 0] 29)) (w.heap.size + 1) 29 #[.bool true, .int .i64 yr, .int .i64 1, .int .i64 1, .int .i64 0, .int .i64 1, .int .i64 0, .int .i64 0] ∧ Below w.heap.size w ((w.alloc (.cells #[.bool false, .int .i64 0, .int .i64 0, .int .i64 0, .int .i64 0, .int .i64 0, .int .i64 0, .int .i64 0] 29)).alloc (.cells #[.bool true, .int .i64 yr, .int .i64 1, .int .i64 1, .int .i64 0, .int .i64 1, .int .i64 0, .int .i64 0] 29)) from ⟨(Blk.new' _ _ _ rfl).alloc _, Blk.new' _ _ _ (by simp), by go_grown⟩)
  clear HB0
  generalize wordR monthL 1 s1.data.toList = p1 at *
  obtain ⟨mo, e1⟩ := p1
  obtain ⟨-, k1, -⟩ := HRow.out _ HB1.out.2.2
  go_wp2_with fail
  refine (HM.out _).mono ?_
  rintro e w2 ⟨rfl, hb⟩
  have HC2 := Lib.hid (show Blk w2 w.heap.size 29 #[.bool false, .int .i64 0, .int .i64 0, .int .i64 0, .int .i64 0, .int .i64 0, .int .i64 0, .int .i64 0] ∧ Blk w2 (w.heap.size + 1) 29 #[.bool true, .int .i64 yr, .int .i64 1, .int .i64 1, .int .i64 0, .int .i64 1, .int .i64 0, .int .i64 0] ∧ Below w.heap.size w w2 from ⟨HB1.out.1.below hb HB1.out.1.lt, HB1.out.2.1.below hb HB1.out.2.1.lt, HB1.out.2.2.trans (hb.mono HB1.out.2.2.size)⟩)
  clear hb HB1 HM k1
  by_cases hx : e1 ≠ 0
  · rw [if_pos ⟨by simp, hx⟩] at hEE
    have hx2 : (e1 != 0) = true := bne_iff_ne.2 hx
    have HX := Lib.hid (show (endR_ [s0.data.toList, s1.data.toList, s2.data.toList]).2 = e1 ∧ e1 ≠ 0 by rw [HEE.out, ← hEE]; exact ⟨rfl, hx⟩)
    clear hx hEE
    obtain ⟨C, hCC⟩ : ∃ C : Array Value, #[.bool true, .int .i64 yr, .int .i64 1, .int .i64 1, .int .i64 0, .int .i64 1, .int .i64 0, .int .i64 0] = C := ⟨_, rfl⟩
    have Hi := Lib.hid (show (Tryz.prog.info? 29).map (·.size) = some C.size ∧ C.all (·.oneCell') = true ∧ C.size = 8 from hCC ▸ ⟨infoU, by simp [Value.oneCell'], rfl⟩)
    rw [hCC] at HC2
    clear hCC
    go_wp2_with (first
      | (refine wpList_load_row rfl 29 (.tmp 4) rfl (w.heap.size + 1) rfl 29 C (0, 0) _ HC2.out.2.1 Tryz.underlying29 rfl Hi.out.1 ?_)
      | (refine wpList_store_mid rfl 29 (.tmp 2) (.tmp 40) rfl w.heap.size 0 C rfl rfl (HC2.out.1.there (by rw [Hi.out.2.2]; decide)) Hi.out.1 Hi.out.2.1 ?_))
    exact bodyPost_ret (results_cell_tmp rfl _ _ w.heap.size 29 C _ _ rfl rfl (HC2.out.1.setAll C Hi.out.2.2) Tryz.underlying29 rfl Hi.out.1) rfl ⟨EndC.bad _ _ HX.out.1 HX.out.2 rfl Hi.out.2.2 Hi.out.2.1, below_sets (Nat.le_refl _) _ _ _ HC2.out.2.2⟩
  rw [if_neg (fun h => hx h.2)] at hEE
  obtain rfl : e1 = 0 := by simpa using hx
  clear hx
  have q2 : w2.cell? ⟨w.heap.size + 1, 2, none⟩ = some (.int .i64 1) := HC2.out.2.1.cell_ rfl
  have f2 := HC2.out.2.1.frozen 2
  have hlt := HC2.out.2.1.lt
  obtain ⟨w3, hw3⟩ : ∃ W, (w2.setCell ⟨w.heap.size + 1, 2, none⟩ (.int .i64 mo)) = W := ⟨_, rfl⟩
  have HC3 := Lib.hid (show Blk w3 w.heap.size 29 #[.bool false, .int .i64 0, .int .i64 0, .int .i64 0, .int .i64 0, .int .i64 0, .int .i64 0, .int .i64 0] ∧ Blk w3 (w.heap.size + 1) 29 #[.bool true, .int .i64 yr, .int .i64 mo, .int .i64 1, .int .i64 0, .int .i64 1, .int .i64 0, .int .i64 0] ∧ Below w.heap.size w w3 from by
    rw [← hw3]
    exact ⟨Blk.farSets HC2.out.1 (by simp) [.int .i64 mo] 2, Blk.setMid [.bool true, .int .i64 yr] [.int .i64 1] [.int .i64 mo] [.int .i64 1, .int .i64 0, .int .i64 1, .int .i64 0, .int .i64 0] HC2.out.2.1 rfl, below_sets (by omega) [.int .i64 mo] 2 _ HC2.out.2.2⟩)
  go_upto_region 12 with fail
  try simp only [hw3]
  clear hw3 HC2 q2 f2 hlt
  generalize parseR s2.data.toList = p2 at *
  obtain ⟨⟨d1, d2, d3⟩, e2⟩ := p2
  simp only [dayV] at HDy
  obtain ⟨-, -, k2⟩ := HRow.out _ HC3.out.2.2
  go_wp2_with fail
  refine (HDy.out _).mono ?_
  rintro e w4 ⟨rfl, hb⟩
  have HC4 := Lib.hid (show Blk w4 w.heap.size 29 #[.bool false, .int .i64 0, .int .i64 0, .int .i64 0, .int .i64 0, .int .i64 0, .int .i64 0, .int .i64 0] ∧ Blk w4 (w.heap.size + 1) 29 #[.bool true, .int .i64 yr, .int .i64 mo, .int .i64 1, .int .i64 0, .int .i64 1, .int .i64 0, .int .i64 0] ∧ Below w.heap.size w w4 from ⟨HC3.out.1.below hb HC3.out.1.lt, HC3.out.2.1.below hb HC3.out.2.1.lt, HC3.out.2.2.trans (hb.mono HC3.out.2.2.size)⟩)
  clear hb HC3 HDy k2
  by_cases hx : e2 ≠ 0
  · rw [if_pos ⟨by simp, hx⟩] at hEE
    have hx2 : (e2 != 0) = true := bne_iff_ne.2 hx
    have HX := Lib.hid (show (endR_ [s0.data.toList, s1.data.toList, s2.data.toList]).2 = e2 ∧ e2 ≠ 0 by rw [HEE.out, ← hEE]; exact ⟨rfl, hx⟩)
    clear hx hEE
    have HZ := Lib.hid (show Blk (w4.alloc (.cells #[.int .i64 d1, .int .i64 d2, .int .i64 d3] 25)) w.heap.size 29 #[.bool false, .int .i64 0, .int .i64 0, .int .i64 0, .int .i64 0, .int .i64 0, .int .i64 0, .int .i64 0] ∧ Blk (w4.alloc (.cells #[.int .i64 d1, .int .i64 d2, .int .i64 d3] 25)) (w.heap.size + 1) 29 #[.bool true, .int .i64 yr, .int .i64 mo, .int .i64 1, .int .i64 0, .int .i64 1, .int .i64 0, .int .i64 0] ∧ Below w.heap.size w (w4.alloc (.cells #[.int .i64 d1, .int .i64 d2, .int .i64 d3] 25)) from ⟨HC4.out.1.alloc _, HC4.out.2.1.alloc _, rbelow_alloc HC4.out.2.2 _⟩)
    obtain ⟨C, hCC⟩ : ∃ C : Array Value, #[.bool true, .int .i64 yr, .int .i64 mo, .int .i64 1, .int .i64 0, .int .i64 1, .int .i64 0, .int .i64 0] = C := ⟨_, rfl⟩
    have Hi := Lib.hid (show (Tryz.prog.info? 29).map (·.size) = some C.size ∧ C.all (·.oneCell') = true ∧ C.size = 8 from hCC ▸ ⟨infoU, by simp [Value.oneCell'], rfl⟩)
    rw [hCC] at HZ
    clear hCC
    go_wp2_with (first
      | (refine wpList_load_row rfl 29 (.tmp 4) rfl (w.heap.size + 1) rfl 29 C (0, 0) _ HZ.out.2.1 Tryz.underlying29 rfl Hi.out.1 ?_)
      | (refine wpList_store_mid rfl 29 (.tmp 2) (.tmp 56) rfl w.heap.size 0 C rfl rfl (HZ.out.1.there (by rw [Hi.out.2.2]; decide)) Hi.out.1 Hi.out.2.1 ?_))
    exact bodyPost_ret (results_cell_tmp rfl _ _ w.heap.size 29 C _ _ rfl rfl (HZ.out.1.setAll C Hi.out.2.2) Tryz.underlying29 rfl Hi.out.1) rfl ⟨EndC.bad _ _ HX.out.1 HX.out.2 rfl Hi.out.2.2 Hi.out.2.1, below_sets (Nat.le_refl _) _ _ _ HZ.out.2.2⟩
  rw [if_neg (fun h => hx h.2)] at hEE
  obtain rfl : e2 = 0 := by simpa using hx
  clear hx
  have q3 : w4.cell? ⟨w.heap.size + 1, 3, none⟩ = some (.int .i64 1) := HC4.out.2.1.cell_ rfl
  have f3 := HC4.out.2.1.frozen 3
  have q4 : w4.cell? ⟨w.heap.size + 1, 4, none⟩ = some (.int .i64 0) := HC4.out.2.1.cell_ rfl
  have f4 := HC4.out.2.1.frozen 4
  have q5 : w4.cell? ⟨w.heap.size + 1, 5, none⟩ = some (.int .i64 1) := HC4.out.2.1.cell_ rfl
  have f5 := HC4.out.2.1.frozen 5
  have hlt := HC4.out.2.1.lt
  obtain ⟨w5, hw5⟩ : ∃ W, ((((w4.setCell ⟨w.heap.size + 1, 3, none⟩ (.int .i64 d1)).setCell ⟨w.heap.size + 1, 4, none⟩ (.int .i64 d2)).setCell ⟨w.heap.size + 1, 5, none⟩ (.int .i64 d3)).alloc (.cells #[.int .i64 d1, .int .i64 d2, .int .i64 d3] 25)) = W := ⟨_, rfl⟩
  have HC5 := Lib.hid (show Blk w5 w.heap.size 29 #[.bool false, .int .i64 0, .int .i64 0, .int .i64 0, .int .i64 0, .int .i64 0, .int .i64 0, .int .i64 0] ∧ Blk w5 (w.heap.size + 1) 29 #[.bool true, .int .i64 yr, .int .i64 mo, .int .i64 d1, .int .i64 d2, .int .i64 d3, .int .i64 0, .int .i64 0] ∧ Below w.heap.size w w5 from by
    rw [← hw5]
    exact ⟨(Blk.farSets HC4.out.1 (by simp) [.int .i64 d1, .int .i64 d2, .int .i64 d3] 3).alloc _, (Blk.setMid [.bool true, .int .i64 yr, .int .i64 mo] [.int .i64 1, .int .i64 0, .int .i64 1] [.int .i64 d1, .int .i64 d2, .int .i64 d3] [.int .i64 0, .int .i64 0] HC4.out.2.1 rfl).alloc _, rbelow_alloc (below_sets (by omega) [.int .i64 d1, .int .i64 d2, .int .i64 d3] 3 _ HC4.out.2.2) _⟩)
  go_upto_region 21 with fail
  try simp only [hw5]
  clear hw5 HC4 q3 f3 q4 f4 q5 f5 hlt
  rw [if_neg (by simp)] at hEE
  have HX := Lib.hid (HEE.out.trans hEE.symm)
  clear hEE
  obtain ⟨C, hCC⟩ : ∃ C : Array Value, #[.bool true, .int .i64 yr, .int .i64 mo, .int .i64 d1, .int .i64 d2, .int .i64 d3, .int .i64 0, .int .i64 0] = C := ⟨_, rfl⟩
  have Hi := Lib.hid (show (Tryz.prog.info? 29).map (·.size) = some C.size ∧ C.all (·.oneCell') = true ∧ C.size = 8 from hCC ▸ ⟨infoU, by simp [Value.oneCell'], rfl⟩)
  rw [hCC] at HC5
  have HCC := Lib.hid hCC
  clear hCC
  go_wp2_with (first
    | (refine wpList_load_row rfl 29 (.tmp 4) rfl (w.heap.size + 1) rfl 29 C (0, 0) _ HC5.out.2.1 Tryz.underlying29 rfl Hi.out.1 ?_)
    | (refine wpList_store_mid rfl 29 (.tmp 2) (.tmp 76) rfl w.heap.size 0 C rfl rfl (HC5.out.1.there (by rw [Hi.out.2.2]; decide)) Hi.out.1 Hi.out.2.1 ?_))
  refine bodyPost_ret (results_cell_tmp rfl _ _ w.heap.size 29 C _ _ rfl rfl (HC5.out.1.setAll C Hi.out.2.2) Tryz.underlying29 rfl Hi.out.1) rfl ⟨EndC.good HX.out (by rw [← HCC.out]; simp [UntilP.arr]), below_sets (Nat.le_refl _) _ _ _ HC5.out.2.2⟩

set_option maxRecDepth 100000 in
set_option maxHeartbeats 2000000 in
theorem r11end4 (b o c : Nat) (s0 s1 s2 s3 : ByteArray) (w : World) (hb : b < w.heap.size) (hs0 : s0.size ≤ 1048576) (hs1 : s1.size ≤ 1048576) (hs2 : s2.size ≤ 1048576) (hs3 : s3.size ≤ 1048576)
    (c0 : w.cell? ⟨b, o + 0, none⟩ = some (.string s0)) (c1 : w.cell? ⟨b, o + 1, none⟩ = some (.string s1)) (c2 : w.cell? ⟨b, o + 2, none⟩ = some (.string s2)) (c3 : w.cell? ⟨b, o + 3, none⟩ = some (.string s3)) :
    Calls Tryz.prog 25 #[.slice (some ⟨b, o, none⟩) 4 c] w fun e w' => EndC [s0.data.toList, s1.data.toList, s2.data.toList, s3.data.toList] e ∧ Below w.heap.size w w' := by
  have HRow := Lib.hid (show ∀ W, Below w.heap.size w W → W.cell? ⟨b, o, none⟩ = some (.string s0) ∧ W.cell? ⟨b, o + 1, none⟩ = some (.string s1) ∧ W.cell? ⟨b, o + 2, none⟩ = some (.string s2) ∧ W.cell? ⟨b, o + 3, none⟩ = some (.string s3) from fun W hW => ⟨(hW.cell (p := ⟨b, o + 0, none⟩) hb).trans c0, (hW.cell (p := ⟨b, o + 1, none⟩) hb).trans c1, (hW.cell (p := ⟨b, o + 2, none⟩) hb).trans c2, (hW.cell (p := ⟨b, o + 3, none⟩) hb).trans c3⟩)
  obtain ⟨EE, hEE⟩ : ∃ EE, endR_ [s0.data.toList, s1.data.toList, s2.data.toList, s3.data.toList] = EE := ⟨_, rfl⟩
  have HEE := Lib.hid hEE
  unfold endR_ at hEE
  simp only [List.getD_cons_zero, List.getD_cons_succ, List.length_cons, List.length_nil] at hEE
  have HY := Lib.hid (fun W => calls_flip (r11year_any s0 W hs0))
  have HM := Lib.hid (fun W => rmonth_any s1 W hs1)
  have HDy := Lib.hid (fun W => rparse_any s2 hs2 W)
  have HCl := Lib.hid (fun W => r6parse_any s3 W hs3)
  clear c0 c1 c2 c3
  have HB0 := Lib.hid (show Blk ((w.alloc (.cells #[.bool false, .int .i64 0, .int .i64 0, .int .i64 0, .int .i64 0, .int .i64 0, .int .i64 0, .int .i64 0] 29)).alloc (.cells #[.bool true, .int .i64 0, .int .i64 1, .int .i64 1, .int .i64 0, .int .i64 1, .int .i64 0, .int .i64 0] 29)) w.heap.size 29 #[.bool false, .int .i64 0, .int .i64 0, .int .i64 0, .int .i64 0, .int .i64 0, .int .i64 0, .int .i64 0] ∧ Blk ((w.alloc (.cells #[.bool false, .int .i64 0, .int .i64 0, .int .i64 0, .int .i64 0, .int .i64 0, .int .i64 0, .int .i64 0] 29)).alloc (.cells #[.bool true, .int .i64 0, .int .i64 1, .int .i64 1, .int .i64 0, .int .i64 1, .int .i64 0, .int .i64 0] 29)) (w.heap.size + 1) 29 #[.bool true, .int .i64 0, .int .i64 1, .int .i64 1, .int .i64 0, .int .i64 1, .int .i64 0, .int .i64 0] ∧ Below w.heap.size w ((w.alloc (.cells #[.bool false, .int .i64 0, .int .i64 0, .int .i64 0, .int .i64 0, .int .i64 0, .int .i64 0, .int .i64 0] 29)).alloc (.cells #[.bool true, .int .i64 0, .int .i64 1, .int .i64 1, .int .i64 0, .int .i64 1, .int .i64 0, .int .i64 0] 29)) from ⟨(Blk.new' _ _ _ rfl).alloc _, Blk.new' _ _ _ (by simp), by go_grown⟩)
  generalize yearR s0.data.toList = p0 at *
  obtain ⟨yr, e0⟩ := p0
  obtain ⟨k0, -, -, -⟩ := HRow.out _ HB0.out.2.2
  go_enter Tryz.func25, Tryz.ntmps25
  go_wp2_with fail
  refine (HY.out _).mono ?_
  rintro e w1 ⟨rfl, rfl⟩
  by_cases hx : e0 ≠ 0
  · rw [if_pos hx] at hEE
    have hx2 : (e0 != 0) = true := bne_iff_ne.2 hx
    have HX := Lib.hid (show (endR_ [s0.data.toList, s1.data.toList, s2.data.toList, s3.data.toList]).2 = e0 ∧ e0 ≠ 0 by rw [HEE.out, ← hEE]; exact ⟨rfl, hx⟩)
    clear hx hEE k0
    go_wp2_with fail
    refine bodyPost_ret (by simp [results, Tryz.results25, go_sem]; rfl) rfl ⟨EndC.bad _ _ HX.out.1 HX.out.2 rfl rfl (by simp [Value.oneCell']), ?_⟩
    go_grown
  rw [if_neg hx] at hEE
  obtain rfl : e0 = 0 := by simpa using hx
  clear hx k0
  have HB1 := Lib.hid (show Blk ((w.alloc (.cells #[.bool false, .int .i64 0, .int .i64 0, .int .i64 0, .int .i64 0, .int .i64 0, .int .i64 0, .int .i64 0] 29)).alloc (.cells #[.bool true, .int .i64 yr, .int .i64 1, .int .i64 1, .int .i64 0, .int .i64 1, .int .i64 0, .int .i64 0] 29)) w.heap.size 29 #[.bool false, .int .i64 0, .int .i64 0, .int .i64 0, .int .i64 0, .int .i64 0, .int .i64 0, .int .i64 0] ∧ Blk ((w.alloc (.cells #[.bool false, .int .i64 0, .int .i64 0, .int .i64 0, .int .i64 0, .int .i64 0, .int .i64 0, .int .i64 0] 29)).alloc (.cells #[.bool true, .int .i64 yr, .int .i64 1, .int .i64 1, .int .i64 0, .int .i64 1, .int .i64 0, .int .i64 0] 29)) (w.heap.size + 1) 29 #[.bool true, .int .i64 yr, .int .i64 1, .int .i64 1, .int .i64 0, .int .i64 1, .int .i64 0, .int .i64 0] ∧ Below w.heap.size w ((w.alloc (.cells #[.bool false, .int .i64 0, .int .i64 0, .int .i64 0, .int .i64 0, .int .i64 0, .int .i64 0, .int .i64 0] 29)).alloc (.cells #[.bool true, .int .i64 yr, .int .i64 1, .int .i64 1, .int .i64 0, .int .i64 1, .int .i64 0, .int .i64 0] 29)) from ⟨(Blk.new' _ _ _ rfl).alloc _, Blk.new' _ _ _ (by simp), by go_grown⟩)
  clear HB0
  generalize wordR monthL 1 s1.data.toList = p1 at *
  obtain ⟨mo, e1⟩ := p1
  obtain ⟨-, k1, -, -⟩ := HRow.out _ HB1.out.2.2
  go_wp2_with fail
  refine (HM.out _).mono ?_
  rintro e w2 ⟨rfl, hb⟩
  have HC2 := Lib.hid (show Blk w2 w.heap.size 29 #[.bool false, .int .i64 0, .int .i64 0, .int .i64 0, .int .i64 0, .int .i64 0, .int .i64 0, .int .i64 0] ∧ Blk w2 (w.heap.size + 1) 29 #[.bool true, .int .i64 yr, .int .i64 1, .int .i64 1, .int .i64 0, .int .i64 1, .int .i64 0, .int .i64 0] ∧ Below w.heap.size w w2 from ⟨HB1.out.1.below hb HB1.out.1.lt, HB1.out.2.1.below hb HB1.out.2.1.lt, HB1.out.2.2.trans (hb.mono HB1.out.2.2.size)⟩)
  clear hb HB1 HM k1
  by_cases hx : e1 ≠ 0
  · rw [if_pos ⟨by simp, hx⟩] at hEE
    have hx2 : (e1 != 0) = true := bne_iff_ne.2 hx
    have HX := Lib.hid (show (endR_ [s0.data.toList, s1.data.toList, s2.data.toList, s3.data.toList]).2 = e1 ∧ e1 ≠ 0 by rw [HEE.out, ← hEE]; exact ⟨rfl, hx⟩)
    clear hx hEE
    obtain ⟨C, hCC⟩ : ∃ C : Array Value, #[.bool true, .int .i64 yr, .int .i64 1, .int .i64 1, .int .i64 0, .int .i64 1, .int .i64 0, .int .i64 0] = C := ⟨_, rfl⟩
    have Hi := Lib.hid (show (Tryz.prog.info? 29).map (·.size) = some C.size ∧ C.all (·.oneCell') = true ∧ C.size = 8 from hCC ▸ ⟨infoU, by simp [Value.oneCell'], rfl⟩)
    rw [hCC] at HC2
    clear hCC
    go_wp2_with (first
      | (refine wpList_load_row rfl 29 (.tmp 4) rfl (w.heap.size + 1) rfl 29 C (0, 0) _ HC2.out.2.1 Tryz.underlying29 rfl Hi.out.1 ?_)
      | (refine wpList_store_mid rfl 29 (.tmp 2) (.tmp 40) rfl w.heap.size 0 C rfl rfl (HC2.out.1.there (by rw [Hi.out.2.2]; decide)) Hi.out.1 Hi.out.2.1 ?_))
    exact bodyPost_ret (results_cell_tmp rfl _ _ w.heap.size 29 C _ _ rfl rfl (HC2.out.1.setAll C Hi.out.2.2) Tryz.underlying29 rfl Hi.out.1) rfl ⟨EndC.bad _ _ HX.out.1 HX.out.2 rfl Hi.out.2.2 Hi.out.2.1, below_sets (Nat.le_refl _) _ _ _ HC2.out.2.2⟩
  rw [if_neg (fun h => hx h.2)] at hEE
  obtain rfl : e1 = 0 := by simpa using hx
  clear hx
  have q2 : w2.cell? ⟨w.heap.size + 1, 2, none⟩ = some (.int .i64 1) := HC2.out.2.1.cell_ rfl
  have f2 := HC2.out.2.1.frozen 2
  have hlt := HC2.out.2.1.lt
  obtain ⟨w3, hw3⟩ : ∃ W, (w2.setCell ⟨w.heap.size + 1, 2, none⟩ (.int .i64 mo)) = W := ⟨_, rfl⟩
  have HC3 := Lib.hid (show Blk w3 w.heap.size 29 #[.bool false, .int .i64 0, .int .i64 0, .int .i64 0, .int .i64 0, .int .i64 0, .int .i64 0, .int .i64 0] ∧ Blk w3 (w.heap.size + 1) 29 #[.bool true, .int .i64 yr, .int .i64 mo, .int .i64 1, .int .i64 0, .int .i64 1, .int .i64 0, .int .i64 0] ∧ Below w.heap.size w w3 from by
    rw [← hw3]
    exact ⟨Blk.farSets HC2.out.1 (by simp) [.int .i64 mo] 2, Blk.setMid [.bool true, .int .i64 yr] [.int .i64 1] [.int .i64 mo] [.int .i64 1, .int .i64 0, .int .i64 1, .int .i64 0, .int .i64 0] HC2.out.2.1 rfl, below_sets (by omega) [.int .i64 mo] 2 _ HC2.out.2.2⟩)
  go_upto_region 12 with fail
  try simp only [hw3]
  clear hw3 HC2 q2 f2 hlt
  generalize parseR s2.data.toList = p2 at *
  obtain ⟨⟨d1, d2, d3⟩, e2⟩ := p2
  simp only [dayV] at HDy
  obtain ⟨-, -, k2, -⟩ := HRow.out _ HC3.out.2.2
  go_wp2_with fail
  refine (HDy.out _).mono ?_
  rintro e w4 ⟨rfl, hb⟩
  have HC4 := Lib.hid (show Blk w4 w.heap.size 29 #[.bool false, .int .i64 0, .int .i64 0, .int .i64 0, .int .i64 0, .int .i64 0, .int .i64 0, .int .i64 0] ∧ Blk w4 (w.heap.size + 1) 29 #[.bool true, .int .i64 yr, .int .i64 mo, .int .i64 1, .int .i64 0, .int .i64 1, .int .i64 0, .int .i64 0] ∧ Below w.heap.size w w4 from ⟨HC3.out.1.below hb HC3.out.1.lt, HC3.out.2.1.below hb HC3.out.2.1.lt, HC3.out.2.2.trans (hb.mono HC3.out.2.2.size)⟩)
  clear hb HC3 HDy k2
  by_cases hx : e2 ≠ 0
  · rw [if_pos ⟨by simp, hx⟩] at hEE
    have hx2 : (e2 != 0) = true := bne_iff_ne.2 hx
    have HX := Lib.hid (show (endR_ [s0.data.toList, s1.data.toList, s2.data.toList, s3.data.toList]).2 = e2 ∧ e2 ≠ 0 by rw [HEE.out, ← hEE]; exact ⟨rfl, hx⟩)
    clear hx hEE
    have HZ := Lib.hid (show Blk (w4.alloc (.cells #[.int .i64 d1, .int .i64 d2, .int .i64 d3] 25)) w.heap.size 29 #[.bool false, .int .i64 0, .int .i64 0, .int .i64 0, .int .i64 0, .int .i64 0, .int .i64 0, .int .i64 0] ∧ Blk (w4.alloc (.cells #[.int .i64 d1, .int .i64 d2, .int .i64 d3] 25)) (w.heap.size + 1) 29 #[.bool true, .int .i64 yr, .int .i64 mo, .int .i64 1, .int .i64 0, .int .i64 1, .int .i64 0, .int .i64 0] ∧ Below w.heap.size w (w4.alloc (.cells #[.int .i64 d1, .int .i64 d2, .int .i64 d3] 25)) from ⟨HC4.out.1.alloc _, HC4.out.2.1.alloc _, rbelow_alloc HC4.out.2.2 _⟩)
    obtain ⟨C, hCC⟩ : ∃ C : Array Value, #[.bool true, .int .i64 yr, .int .i64 mo, .int .i64 1, .int .i64 0, .int .i64 1, .int .i64 0, .int .i64 0] = C := ⟨_, rfl⟩
    have Hi := Lib.hid (show (Tryz.prog.info? 29).map (·.size) = some C.size ∧ C.all (·.oneCell') = true ∧ C.size = 8 from hCC ▸ ⟨infoU, by simp [Value.oneCell'], rfl⟩)
    rw [hCC] at HZ
    clear hCC
    go_wp2_with (first
      | (refine wpList_load_row rfl 29 (.tmp 4) rfl (w.heap.size + 1) rfl 29 C (0, 0) _ HZ.out.2.1 Tryz.underlying29 rfl Hi.out.1 ?_)
      | (refine wpList_store_mid rfl 29 (.tmp 2) (.tmp 56) rfl w.heap.size 0 C rfl rfl (HZ.out.1.there (by rw [Hi.out.2.2]; decide)) Hi.out.1 Hi.out.2.1 ?_))
    exact bodyPost_ret (results_cell_tmp rfl _ _ w.heap.size 29 C _ _ rfl rfl (HZ.out.1.setAll C Hi.out.2.2) Tryz.underlying29 rfl Hi.out.1) rfl ⟨EndC.bad _ _ HX.out.1 HX.out.2 rfl Hi.out.2.2 Hi.out.2.1, below_sets (Nat.le_refl _) _ _ _ HZ.out.2.2⟩
  rw [if_neg (fun h => hx h.2)] at hEE
  obtain rfl : e2 = 0 := by simpa using hx
  clear hx
  have q3 : w4.cell? ⟨w.heap.size + 1, 3, none⟩ = some (.int .i64 1) := HC4.out.2.1.cell_ rfl
  have f3 := HC4.out.2.1.frozen 3
  have q4 : w4.cell? ⟨w.heap.size + 1, 4, none⟩ = some (.int .i64 0) := HC4.out.2.1.cell_ rfl
  have f4 := HC4.out.2.1.frozen 4
  have q5 : w4.cell? ⟨w.heap.size + 1, 5, none⟩ = some (.int .i64 1) := HC4.out.2.1.cell_ rfl
  have f5 := HC4.out.2.1.frozen 5
  have hlt := HC4.out.2.1.lt
  obtain ⟨w5, hw5⟩ : ∃ W, ((((w4.setCell ⟨w.heap.size + 1, 3, none⟩ (.int .i64 d1)).setCell ⟨w.heap.size + 1, 4, none⟩ (.int .i64 d2)).setCell ⟨w.heap.size + 1, 5, none⟩ (.int .i64 d3)).alloc (.cells #[.int .i64 d1, .int .i64 d2, .int .i64 d3] 25)) = W := ⟨_, rfl⟩
  have HC5 := Lib.hid (show Blk w5 w.heap.size 29 #[.bool false, .int .i64 0, .int .i64 0, .int .i64 0, .int .i64 0, .int .i64 0, .int .i64 0, .int .i64 0] ∧ Blk w5 (w.heap.size + 1) 29 #[.bool true, .int .i64 yr, .int .i64 mo, .int .i64 d1, .int .i64 d2, .int .i64 d3, .int .i64 0, .int .i64 0] ∧ Below w.heap.size w w5 from by
    rw [← hw5]
    exact ⟨(Blk.farSets HC4.out.1 (by simp) [.int .i64 d1, .int .i64 d2, .int .i64 d3] 3).alloc _, (Blk.setMid [.bool true, .int .i64 yr, .int .i64 mo] [.int .i64 1, .int .i64 0, .int .i64 1] [.int .i64 d1, .int .i64 d2, .int .i64 d3] [.int .i64 0, .int .i64 0] HC4.out.2.1 rfl).alloc _, rbelow_alloc (below_sets (by omega) [.int .i64 d1, .int .i64 d2, .int .i64 d3] 3 _ HC4.out.2.2) _⟩)
  go_upto_region 17 with fail
  try simp only [hw5]
  clear hw5 HC4 q3 f3 q4 f4 q5 f5 hlt
  generalize clockR s3.data.toList = p3 at *
  obtain ⟨⟨h1, h2⟩, e3⟩ := p3
  obtain ⟨-, -, -, k3⟩ := HRow.out _ HC5.out.2.2
  go_wp2_with fail
  refine (HCl.out _).mono ?_
  rintro e w6 ⟨rfl, hb⟩
  have HC6 := Lib.hid (show Blk w6 w.heap.size 29 #[.bool false, .int .i64 0, .int .i64 0, .int .i64 0, .int .i64 0, .int .i64 0, .int .i64 0, .int .i64 0] ∧ Blk w6 (w.heap.size + 1) 29 #[.bool true, .int .i64 yr, .int .i64 mo, .int .i64 d1, .int .i64 d2, .int .i64 d3, .int .i64 0, .int .i64 0] ∧ Below w.heap.size w w6 from ⟨HC5.out.1.below hb HC5.out.1.lt, HC5.out.2.1.below hb HC5.out.2.1.lt, HC5.out.2.2.trans (hb.mono HC5.out.2.2.size)⟩)
  clear hb HC5 HCl k3
  by_cases hx : e3 ≠ 0
  · rw [if_pos ⟨by simp, hx⟩] at hEE
    have hx2 : (e3 != 0) = true := bne_iff_ne.2 hx
    have HX := Lib.hid (show (endR_ [s0.data.toList, s1.data.toList, s2.data.toList, s3.data.toList]).2 = e3 ∧ e3 ≠ 0 by rw [HEE.out, ← hEE]; exact ⟨rfl, hx⟩)
    clear hx hEE
    have HZ := Lib.hid (show Blk (w6.alloc (.cells #[.int .i64 h1, .int .i64 h2] 27)) w.heap.size 29 #[.bool false, .int .i64 0, .int .i64 0, .int .i64 0, .int .i64 0, .int .i64 0, .int .i64 0, .int .i64 0] ∧ Blk (w6.alloc (.cells #[.int .i64 h1, .int .i64 h2] 27)) (w.heap.size + 1) 29 #[.bool true, .int .i64 yr, .int .i64 mo, .int .i64 d1, .int .i64 d2, .int .i64 d3, .int .i64 0, .int .i64 0] ∧ Below w.heap.size w (w6.alloc (.cells #[.int .i64 h1, .int .i64 h2] 27)) from ⟨HC6.out.1.alloc _, HC6.out.2.1.alloc _, rbelow_alloc HC6.out.2.2 _⟩)
    obtain ⟨C, hCC⟩ : ∃ C : Array Value, #[.bool true, .int .i64 yr, .int .i64 mo, .int .i64 d1, .int .i64 d2, .int .i64 d3, .int .i64 0, .int .i64 0] = C := ⟨_, rfl⟩
    have Hi := Lib.hid (show (Tryz.prog.info? 29).map (·.size) = some C.size ∧ C.all (·.oneCell') = true ∧ C.size = 8 from hCC ▸ ⟨infoU, by simp [Value.oneCell'], rfl⟩)
    rw [hCC] at HZ
    clear hCC
    go_wp2_with (first
      | (refine wpList_load_row rfl 29 (.tmp 4) rfl (w.heap.size + 1) rfl 29 C (0, 0) _ HZ.out.2.1 Tryz.underlying29 rfl Hi.out.1 ?_)
      | (refine wpList_store_mid rfl 29 (.tmp 2) (.tmp 72) rfl w.heap.size 0 C rfl rfl (HZ.out.1.there (by rw [Hi.out.2.2]; decide)) Hi.out.1 Hi.out.2.1 ?_))
    exact bodyPost_ret (results_cell_tmp rfl _ _ w.heap.size 29 C _ _ rfl rfl (HZ.out.1.setAll C Hi.out.2.2) Tryz.underlying29 rfl Hi.out.1) rfl ⟨EndC.bad _ _ HX.out.1 HX.out.2 rfl Hi.out.2.2 Hi.out.2.1, below_sets (Nat.le_refl _) _ _ _ HZ.out.2.2⟩
  rw [if_neg (fun h => hx h.2)] at hEE
  obtain rfl : e3 = 0 := by simpa using hx
  clear hx
  have q6 : w6.cell? ⟨w.heap.size + 1, 6, none⟩ = some (.int .i64 0) := HC6.out.2.1.cell_ rfl
  have f6 := HC6.out.2.1.frozen 6
  have q7 : w6.cell? ⟨w.heap.size + 1, 7, none⟩ = some (.int .i64 0) := HC6.out.2.1.cell_ rfl
  have f7 := HC6.out.2.1.frozen 7
  have hlt := HC6.out.2.1.lt
  obtain ⟨w7, hw7⟩ : ∃ W, (((w6.setCell ⟨w.heap.size + 1, 6, none⟩ (.int .i64 h1)).setCell ⟨w.heap.size + 1, 7, none⟩ (.int .i64 h2)).alloc (.cells #[.int .i64 h1, .int .i64 h2] 27)) = W := ⟨_, rfl⟩
  have HC7 := Lib.hid (show Blk w7 w.heap.size 29 #[.bool false, .int .i64 0, .int .i64 0, .int .i64 0, .int .i64 0, .int .i64 0, .int .i64 0, .int .i64 0] ∧ Blk w7 (w.heap.size + 1) 29 #[.bool true, .int .i64 yr, .int .i64 mo, .int .i64 d1, .int .i64 d2, .int .i64 d3, .int .i64 h1, .int .i64 h2] ∧ Below w.heap.size w w7 from by
    rw [← hw7]
    exact ⟨(Blk.farSets HC6.out.1 (by simp) [.int .i64 h1, .int .i64 h2] 6).alloc _, (Blk.setMid [.bool true, .int .i64 yr, .int .i64 mo, .int .i64 d1, .int .i64 d2, .int .i64 d3] [.int .i64 0, .int .i64 0] [.int .i64 h1, .int .i64 h2] [] HC6.out.2.1 rfl).alloc _, rbelow_alloc (below_sets (by omega) [.int .i64 h1, .int .i64 h2] 6 _ HC6.out.2.2) _⟩)
  go_upto_region 21 with fail
  try simp only [hw7]
  clear hw7 HC6 q6 f6 q7 f7 hlt
  have HX := Lib.hid (HEE.out.trans hEE.symm)
  clear hEE
  obtain ⟨C, hCC⟩ : ∃ C : Array Value, #[.bool true, .int .i64 yr, .int .i64 mo, .int .i64 d1, .int .i64 d2, .int .i64 d3, .int .i64 h1, .int .i64 h2] = C := ⟨_, rfl⟩
  have Hi := Lib.hid (show (Tryz.prog.info? 29).map (·.size) = some C.size ∧ C.all (·.oneCell') = true ∧ C.size = 8 from hCC ▸ ⟨infoU, by simp [Value.oneCell'], rfl⟩)
  rw [hCC] at HC7
  have HCC := Lib.hid hCC
  clear hCC
  go_wp2_with (first
    | (refine wpList_load_row rfl 29 (.tmp 4) rfl (w.heap.size + 1) rfl 29 C (0, 0) _ HC7.out.2.1 Tryz.underlying29 rfl Hi.out.1 ?_)
    | (refine wpList_store_mid rfl 29 (.tmp 2) (.tmp 76) rfl w.heap.size 0 C rfl rfl (HC7.out.1.there (by rw [Hi.out.2.2]; decide)) Hi.out.1 Hi.out.2.1 ?_))
  refine bodyPost_ret (results_cell_tmp rfl _ _ w.heap.size 29 C _ _ rfl rfl (HC7.out.1.setAll C Hi.out.2.2) Tryz.underlying29 rfl Hi.out.1) rfl ⟨EndC.good HX.out (by rw [← HCC.out]; simp [UntilP.arr]), below_sets (Nat.le_refl _) _ _ _ HC7.out.2.2⟩

theorem r11end_any (b o n c : Nat) (ls : List (List UInt8)) (w : World) (hr : StrRow w b o ls) (hn : ls.length = n) (h1 : 1 ≤ n) (h4 : n ≤ 4) (hl : ∀ l ∈ ls, l.length ≤ 1048576) :
    Calls Tryz.prog 25 #[.slice (some ⟨b, o, none⟩) n c] w fun e w' => EndC ls e ∧ Below w.heap.size w w' := by
  have hat := hr.at_
  rcases (by omega : n = 1 ∨ n = 2 ∨ n = 3 ∨ n = 4) with rfl | rfl | rfl | rfl
  · obtain ⟨a0, rfl⟩ : ∃ a0, ls = [a0] := by
      match ls, hn with
      | [a0], _ => exact ⟨a0, rfl⟩
    obtain ⟨s0, rfl⟩ := asBa a0
    exact r11end1 b o c s0 w hr.lt (by have := hl s0.data.toList (by simp); simpa using this) (by have := hat 0 _ rfl; rwa [ba_list] at this)
  · obtain ⟨a0, a1, rfl⟩ : ∃ a0 a1, ls = [a0, a1] := by
      match ls, hn with
      | [a0, a1], _ => exact ⟨a0, a1, rfl⟩
    obtain ⟨s0, rfl⟩ := asBa a0
    obtain ⟨s1, rfl⟩ := asBa a1
    exact r11end2 b o c s0 s1 w hr.lt (by have := hl s0.data.toList (by simp); simpa using this) (by have := hl s1.data.toList (by simp); simpa using this) (by have := hat 0 _ rfl; rwa [ba_list] at this) (by have := hat 1 _ rfl; rwa [ba_list] at this)
  · obtain ⟨a0, a1, a2, rfl⟩ : ∃ a0 a1 a2, ls = [a0, a1, a2] := by
      match ls, hn with
      | [a0, a1, a2], _ => exact ⟨a0, a1, a2, rfl⟩
    obtain ⟨s0, rfl⟩ := asBa a0
    obtain ⟨s1, rfl⟩ := asBa a1
    obtain ⟨s2, rfl⟩ := asBa a2
    exact r11end3 b o c s0 s1 s2 w hr.lt (by have := hl s0.data.toList (by simp); simpa using this) (by have := hl s1.data.toList (by simp); simpa using this) (by have := hl s2.data.toList (by simp); simpa using this) (by have := hat 0 _ rfl; rwa [ba_list] at this) (by have := hat 1 _ rfl; rwa [ba_list] at this) (by have := hat 2 _ rfl; rwa [ba_list] at this)
  · obtain ⟨a0, a1, a2, a3, rfl⟩ : ∃ a0 a1 a2 a3, ls = [a0, a1, a2, a3] := by
      match ls, hn with
      | [a0, a1, a2, a3], _ => exact ⟨a0, a1, a2, a3, rfl⟩
    obtain ⟨s0, rfl⟩ := asBa a0
    obtain ⟨s1, rfl⟩ := asBa a1
    obtain ⟨s2, rfl⟩ := asBa a2
    obtain ⟨s3, rfl⟩ := asBa a3
    exact r11end4 b o c s0 s1 s2 s3 w hr.lt (by have := hl s0.data.toList (by simp); simpa using this) (by have := hl s1.data.toList (by simp); simpa using this) (by have := hl s2.data.toList (by simp); simpa using this) (by have := hl s3.data.toList (by simp); simpa using this) (by have := hat 0 _ rfl; rwa [ba_list] at this) (by have := hat 1 _ rfl; rwa [ba_list] at this) (by have := hat 2 _ rfl; rwa [ba_list] at this) (by have := hat 3 _ rfl; rwa [ba_list] at this)


set_option maxRecDepth 100000 in
set_option maxHeartbeats 2000000 in
theorem r11parse3 (b o c : Nat) (s0 s1 s2 : ByteArray) (w : World) (hb : b < w.heap.size) (hc : 3 ≤ c) (hs0 : s0.size ≤ 1048576) (hs1 : s1.size ≤ 1048576) (hs2 : s2.size ≤ 1048576)
    (hat : StrRow w b o [s0.data.toList, s1.data.toList, s2.data.toList]) :
    Calls Tryz.prog 12 #[.slice (some ⟨b, o, none⟩) 3 c] w fun e w' => e = .returned (.tuple #[.agg (eraR [s0.data.toList, s1.data.toList, s2.data.toList]).1.cells, .int .i64 (eraR [s0.data.toList, s1.data.toList, s2.data.toList]).2]) ∧ Below w.heap.size w w' := by
  obtain ⟨R, hR⟩ : ∃ R, eraR [s0.data.toList, s1.data.toList, s2.data.toList] = R := ⟨_, rfl⟩
  rw [hR]
  have HRow := Lib.hid (show ∀ W, Below w.heap.size w W → W.cell? ⟨b, o, none⟩ = some (.string s0) ∧ W.cell? ⟨b, o + 1, none⟩ = some (.string s1) ∧ W.cell? ⟨b, o + 2, none⟩ = some (.string s2) from fun W hW => ⟨by have := (hat.below hW).at_ 0 _ rfl; rwa [ba_list] at this, by have := (hat.below hW).at_ 1 _ rfl; rwa [ba_list] at this, by have := (hat.below hW).at_ 2 _ rfl; rwa [ba_list] at this⟩)
  unfold eraR at hR
  rw [if_neg (by simp)] at hR
  simp only [List.getD_cons_zero, List.getD_cons_succ] at hR
  have HP := Lib.hid (fun W => r4parse_any s0 W hs0)
  have HRu := Lib.hid (fun W off => r11rules_any s1 off W hs1)
  have HF := Lib.hid (fun W => calls_flip (r11written_any s2 W hs2))
  clear hat
  have HB0 := Lib.hid (And.intro (Blk.new' w 31 #[.int .i64 0, .int .i64 0, .int .i64 0, .string ⟨#[]⟩, .string ⟨#[]⟩, .bool false, .int .i64 0, .int .i64 0, .int .i64 0, .int .i64 0, .int .i64 0, .int .i64 0, .int .i64 0] rfl) ((Below.refl w.heap.size w).alloc (Nat.le_refl _) (.cells #[.int .i64 0, .int .i64 0, .int .i64 0, .string ⟨#[]⟩, .string ⟨#[]⟩, .bool false, .int .i64 0, .int .i64 0, .int .i64 0, .int .i64 0, .int .i64 0, .int .i64 0, .int .i64 0] 31)))
  generalize offParseR s0.data.toList = p0 at *
  obtain ⟨x, e0⟩ := p0
  obtain ⟨k0, -⟩ := HRow.out _ HB0.out.2
  go_enter Tryz.func12, Tryz.ntmps12
  go_wp2_with fail
  refine (HP.out _).mono ?_
  rintro e w1 ⟨rfl, hb1⟩
  have HB1 := Lib.hid (And.intro (HB0.out.1.below hb1 HB0.out.1.lt) (HB0.out.2.trans (hb1.mono HB0.out.2.size)))
  clear hb1 HB0 HP k0
  by_cases hx : e0 ≠ 0
  · rw [if_pos hx] at hR
    have hx2 : (e0 != 0) = true := bne_iff_ne.2 hx
    have HR := Lib.hid hR
    clear hR hx
    have z0 : w1.cell? ⟨w.heap.size, 0, none⟩ = some (.int .i64 0) := HB1.out.1.cell_ rfl
    have y0 := HB1.out.1.frozen 0
    have z1 : w1.cell? ⟨w.heap.size, 1, none⟩ = some (.int .i64 0) := HB1.out.1.cell_ rfl
    have y1 := HB1.out.1.frozen 1
    have z2 : w1.cell? ⟨w.heap.size, 2, none⟩ = some (.int .i64 0) := HB1.out.1.cell_ rfl
    have y2 := HB1.out.1.frozen 2
    have z3 : w1.cell? ⟨w.heap.size, 3, none⟩ = some (.string ⟨#[]⟩) := HB1.out.1.cell_ rfl
    have y3 := HB1.out.1.frozen 3
    have z4 : w1.cell? ⟨w.heap.size, 4, none⟩ = some (.string ⟨#[]⟩) := HB1.out.1.cell_ rfl
    have y4 := HB1.out.1.frozen 4
    have z5 : w1.cell? ⟨w.heap.size, 5, none⟩ = some (.bool false) := HB1.out.1.cell_ rfl
    have y5 := HB1.out.1.frozen 5
    have z6 : w1.cell? ⟨w.heap.size, 6, none⟩ = some (.int .i64 0) := HB1.out.1.cell_ rfl
    have y6 := HB1.out.1.frozen 6
    have z7 : w1.cell? ⟨w.heap.size, 7, none⟩ = some (.int .i64 0) := HB1.out.1.cell_ rfl
    have y7 := HB1.out.1.frozen 7
    have z8 : w1.cell? ⟨w.heap.size, 8, none⟩ = some (.int .i64 0) := HB1.out.1.cell_ rfl
    have y8 := HB1.out.1.frozen 8
    have z9 : w1.cell? ⟨w.heap.size, 9, none⟩ = some (.int .i64 0) := HB1.out.1.cell_ rfl
    have y9 := HB1.out.1.frozen 9
    have z10 : w1.cell? ⟨w.heap.size, 10, none⟩ = some (.int .i64 0) := HB1.out.1.cell_ rfl
    have y10 := HB1.out.1.frozen 10
    have z11 : w1.cell? ⟨w.heap.size, 11, none⟩ = some (.int .i64 0) := HB1.out.1.cell_ rfl
    have y11 := HB1.out.1.frozen 11
    have z12 : w1.cell? ⟨w.heap.size, 12, none⟩ = some (.int .i64 0) := HB1.out.1.cell_ rfl
    have y12 := HB1.out.1.frozen 12
    have zlt := HB1.out.1.lt
    go_wp2_with fail
    exact bodyPost_ret (results_cell_tmp rfl _ _ w.heap.size 31 #[.int .i64 0, .int .i64 0, .int .i64 0, .string ⟨#[]⟩, .string ⟨#[]⟩, .bool false, .int .i64 0, .int .i64 0, .int .i64 0, .int .i64 0, .int .i64 0, .int .i64 0, .int .i64 0] _ _ rfl rfl ((HB1.out.1).setAll #[.int .i64 0, .int .i64 0, .int .i64 0, .string ⟨#[]⟩, .string ⟨#[]⟩, .bool false, .int .i64 0, .int .i64 0, .int .i64 0, .int .i64 0, .int .i64 0, .int .i64 0, .int .i64 0] rfl) Tryz.underlying31 rfl infoEra) rfl ⟨by rw [← HR.out]; rfl, below_sets (Nat.le_refl _) (#[.int .i64 0, .int .i64 0, .int .i64 0, .string ⟨#[]⟩, .string ⟨#[]⟩, .bool false, .int .i64 0, .int .i64 0, .int .i64 0, .int .i64 0, .int .i64 0, .int .i64 0, .int .i64 0] : Array Value).toList 0 _ HB1.out.2⟩
  rw [if_neg hx] at hR
  obtain rfl : e0 = 0 := by simpa using hx
  clear hx
  obtain ⟨-, k1, -⟩ := HRow.out _ HB1.out.2
  go_wp2_with fail
  refine (HRu.out _ _).mono ?_
  rintro e w2 ⟨⟨C, rfl, hC1, hC2, hC3⟩, hb2⟩
  have HB2 := Lib.hid (And.intro (HB1.out.1.below hb2 HB1.out.1.lt) (HB1.out.2.trans (hb2.mono HB1.out.2.size)))
  clear hb2 HB1 HRu k1
  by_cases hx : (rulesR s1.data.toList).2 ≠ 0
  · rw [if_pos hx] at hR
    have hx2 : ((rulesR s1.data.toList).2 != 0) = true := bne_iff_ne.2 hx
    have HR := Lib.hid hR
    have HC := Lib.hid (show (Tryz.prog.info? 31).map (·.size) = some C.size ∧ C.all (·.oneCell') = true ∧ C.size = 13 from ⟨by rw [hC1]; exact infoEra, hC2, hC1⟩)
    clear hR hx hC1 hC2 hC3
    generalize (rulesR s1.data.toList).2 = e1 at *
    have HN := Lib.hid (Blk.new' w2 31 #[.int .i64 0, .int .i64 0, .int .i64 0, .string ⟨#[]⟩, .string ⟨#[]⟩, .bool false, .int .i64 0, .int .i64 0, .int .i64 0, .int .i64 0, .int .i64 0, .int .i64 0, .int .i64 0] rfl)
    go_upto_region 7 with (refine wpList_store_mid rfl 31 (.tmp 6) (.tmp 35) rfl w2.heap.size 0 C rfl rfl (HN.out.there (by rw [HC.out.2.2]; decide)) HC.out.1 HC.out.2.1 ?_)
    have HB3 := Lib.hid (show Blk ((w2.alloc (.cells #[.int .i64 0, .int .i64 0, .int .i64 0, .string ⟨#[]⟩, .string ⟨#[]⟩, .bool false, .int .i64 0, .int .i64 0, .int .i64 0, .int .i64 0, .int .i64 0, .int .i64 0, .int .i64 0] 31)).setCells w2.heap.size 0 C.toList) w.heap.size 31 #[.int .i64 0, .int .i64 0, .int .i64 0, .string ⟨#[]⟩, .string ⟨#[]⟩, .bool false, .int .i64 0, .int .i64 0, .int .i64 0, .int .i64 0, .int .i64 0, .int .i64 0, .int .i64 0] ∧ Below w.heap.size w ((w2.alloc (.cells #[.int .i64 0, .int .i64 0, .int .i64 0, .string ⟨#[]⟩, .string ⟨#[]⟩, .bool false, .int .i64 0, .int .i64 0, .int .i64 0, .int .i64 0, .int .i64 0, .int .i64 0, .int .i64 0] 31)).setCells w2.heap.size 0 C.toList) from ⟨Blk.farSets (HB2.out.1.alloc _) (by have := HB2.out.1.lt; omega) _ _, below_sets (HB2.out.2.size) _ _ _ (rbelow_alloc HB2.out.2 _)⟩)
    generalize (w2.alloc (.cells #[.int .i64 0, .int .i64 0, .int .i64 0, .string ⟨#[]⟩, .string ⟨#[]⟩, .bool false, .int .i64 0, .int .i64 0, .int .i64 0, .int .i64 0, .int .i64 0, .int .i64 0, .int .i64 0] 31)).setCells w2.heap.size 0 C.toList = w3 at *
    clear HN HB2
    have z0 : w3.cell? ⟨w.heap.size, 0, none⟩ = some (.int .i64 0) := HB3.out.1.cell_ rfl
    have y0 := HB3.out.1.frozen 0
    have z1 : w3.cell? ⟨w.heap.size, 1, none⟩ = some (.int .i64 0) := HB3.out.1.cell_ rfl
    have y1 := HB3.out.1.frozen 1
    have z2 : w3.cell? ⟨w.heap.size, 2, none⟩ = some (.int .i64 0) := HB3.out.1.cell_ rfl
    have y2 := HB3.out.1.frozen 2
    have z3 : w3.cell? ⟨w.heap.size, 3, none⟩ = some (.string ⟨#[]⟩) := HB3.out.1.cell_ rfl
    have y3 := HB3.out.1.frozen 3
    have z4 : w3.cell? ⟨w.heap.size, 4, none⟩ = some (.string ⟨#[]⟩) := HB3.out.1.cell_ rfl
    have y4 := HB3.out.1.frozen 4
    have z5 : w3.cell? ⟨w.heap.size, 5, none⟩ = some (.bool false) := HB3.out.1.cell_ rfl
    have y5 := HB3.out.1.frozen 5
    have z6 : w3.cell? ⟨w.heap.size, 6, none⟩ = some (.int .i64 0) := HB3.out.1.cell_ rfl
    have y6 := HB3.out.1.frozen 6
    have z7 : w3.cell? ⟨w.heap.size, 7, none⟩ = some (.int .i64 0) := HB3.out.1.cell_ rfl
    have y7 := HB3.out.1.frozen 7
    have z8 : w3.cell? ⟨w.heap.size, 8, none⟩ = some (.int .i64 0) := HB3.out.1.cell_ rfl
    have y8 := HB3.out.1.frozen 8
    have z9 : w3.cell? ⟨w.heap.size, 9, none⟩ = some (.int .i64 0) := HB3.out.1.cell_ rfl
    have y9 := HB3.out.1.frozen 9
    have z10 : w3.cell? ⟨w.heap.size, 10, none⟩ = some (.int .i64 0) := HB3.out.1.cell_ rfl
    have y10 := HB3.out.1.frozen 10
    have z11 : w3.cell? ⟨w.heap.size, 11, none⟩ = some (.int .i64 0) := HB3.out.1.cell_ rfl
    have y11 := HB3.out.1.frozen 11
    have z12 : w3.cell? ⟨w.heap.size, 12, none⟩ = some (.int .i64 0) := HB3.out.1.cell_ rfl
    have y12 := HB3.out.1.frozen 12
    have zlt := HB3.out.1.lt
    go_wp2_with fail
    exact bodyPost_ret (results_cell_tmp rfl _ _ w.heap.size 31 #[.int .i64 0, .int .i64 0, .int .i64 0, .string ⟨#[]⟩, .string ⟨#[]⟩, .bool false, .int .i64 0, .int .i64 0, .int .i64 0, .int .i64 0, .int .i64 0, .int .i64 0, .int .i64 0] _ _ rfl rfl ((HB3.out.1).setAll #[.int .i64 0, .int .i64 0, .int .i64 0, .string ⟨#[]⟩, .string ⟨#[]⟩, .bool false, .int .i64 0, .int .i64 0, .int .i64 0, .int .i64 0, .int .i64 0, .int .i64 0, .int .i64 0] rfl) Tryz.underlying31 rfl infoEra) rfl ⟨by rw [← HR.out]; rfl, below_sets (Nat.le_refl _) (#[.int .i64 0, .int .i64 0, .int .i64 0, .string ⟨#[]⟩, .string ⟨#[]⟩, .bool false, .int .i64 0, .int .i64 0, .int .i64 0, .int .i64 0, .int .i64 0, .int .i64 0, .int .i64 0] : Array Value).toList 0 _ HB3.out.2⟩
  rw [if_neg hx] at hR
  have hr1 : (rulesR s1.data.toList).2 = 0 := by simpa using hx
  obtain rfl := hC3 hr1
  clear hC1 hC2 hC3 hx
  generalize rulesR s1.data.toList = RR at *
  obtain ⟨⟨kd, sv, sl⟩, r1⟩ := RR
  obtain rfl : r1 = 0 := hr1
  obtain ⟨sn, rfl⟩ : ∃ sn : ByteArray, sl = sn.data.toList := ⟨⟨sl.toArray⟩, by simp⟩
  simp only [ba_list]
  go_upto_region 7 with fail
  have HB3 := Lib.hid (show Blk (w2.alloc (.cells #[.int .i64 x, .int .i64 kd, .int .i64 sv, .string sn, .string ⟨#[]⟩, .bool false, .int .i64 0, .int .i64 0, .int .i64 0, .int .i64 0, .int .i64 0, .int .i64 0, .int .i64 0] 31)) w.heap.size 31 #[.int .i64 0, .int .i64 0, .int .i64 0, .string ⟨#[]⟩, .string ⟨#[]⟩, .bool false, .int .i64 0, .int .i64 0, .int .i64 0, .int .i64 0, .int .i64 0, .int .i64 0, .int .i64 0] ∧ Blk (w2.alloc (.cells #[.int .i64 x, .int .i64 kd, .int .i64 sv, .string sn, .string ⟨#[]⟩, .bool false, .int .i64 0, .int .i64 0, .int .i64 0, .int .i64 0, .int .i64 0, .int .i64 0, .int .i64 0] 31)) w2.heap.size 31 #[.int .i64 x, .int .i64 kd, .int .i64 sv, .string sn, .string ⟨#[]⟩, .bool false, .int .i64 0, .int .i64 0, .int .i64 0, .int .i64 0, .int .i64 0, .int .i64 0, .int .i64 0] ∧ Below w.heap.size w (w2.alloc (.cells #[.int .i64 x, .int .i64 kd, .int .i64 sv, .string sn, .string ⟨#[]⟩, .bool false, .int .i64 0, .int .i64 0, .int .i64 0, .int .i64 0, .int .i64 0, .int .i64 0, .int .i64 0] 31)) ∧ w.heap.size < w2.heap.size from ⟨HB2.out.1.alloc _, Blk.new' _ _ _ rfl, rbelow_alloc HB2.out.2 _, HB2.out.1.lt⟩)
  generalize w2.alloc (.cells #[.int .i64 x, .int .i64 kd, .int .i64 sv, .string sn, .string ⟨#[]⟩, .bool false, .int .i64 0, .int .i64 0, .int .i64 0, .int .i64 0, .int .i64 0, .int .i64 0, .int .i64 0] 31) = w3 at *
  clear HB2
  generalize w2.heap.size = g at *
  obtain ⟨-, -, k2⟩ := HRow.out _ HB3.out.2.2.1
  go_wp2_with fail
  refine (HF.out _).mono ?_
  rintro e w4 ⟨rfl, rfl⟩
  cases hf : fmtB s2.data.toList
  · rw [if_pos hf] at hR
    have HR := Lib.hid hR
    clear hR hf
    have z0 : w3.cell? ⟨w.heap.size, 0, none⟩ = some (.int .i64 0) := HB3.out.1.cell_ rfl
    have y0 := HB3.out.1.frozen 0
    have z1 : w3.cell? ⟨w.heap.size, 1, none⟩ = some (.int .i64 0) := HB3.out.1.cell_ rfl
    have y1 := HB3.out.1.frozen 1
    have z2 : w3.cell? ⟨w.heap.size, 2, none⟩ = some (.int .i64 0) := HB3.out.1.cell_ rfl
    have y2 := HB3.out.1.frozen 2
    have z3 : w3.cell? ⟨w.heap.size, 3, none⟩ = some (.string ⟨#[]⟩) := HB3.out.1.cell_ rfl
    have y3 := HB3.out.1.frozen 3
    have z4 : w3.cell? ⟨w.heap.size, 4, none⟩ = some (.string ⟨#[]⟩) := HB3.out.1.cell_ rfl
    have y4 := HB3.out.1.frozen 4
    have z5 : w3.cell? ⟨w.heap.size, 5, none⟩ = some (.bool false) := HB3.out.1.cell_ rfl
    have y5 := HB3.out.1.frozen 5
    have z6 : w3.cell? ⟨w.heap.size, 6, none⟩ = some (.int .i64 0) := HB3.out.1.cell_ rfl
    have y6 := HB3.out.1.frozen 6
    have z7 : w3.cell? ⟨w.heap.size, 7, none⟩ = some (.int .i64 0) := HB3.out.1.cell_ rfl
    have y7 := HB3.out.1.frozen 7
    have z8 : w3.cell? ⟨w.heap.size, 8, none⟩ = some (.int .i64 0) := HB3.out.1.cell_ rfl
    have y8 := HB3.out.1.frozen 8
    have z9 : w3.cell? ⟨w.heap.size, 9, none⟩ = some (.int .i64 0) := HB3.out.1.cell_ rfl
    have y9 := HB3.out.1.frozen 9
    have z10 : w3.cell? ⟨w.heap.size, 10, none⟩ = some (.int .i64 0) := HB3.out.1.cell_ rfl
    have y10 := HB3.out.1.frozen 10
    have z11 : w3.cell? ⟨w.heap.size, 11, none⟩ = some (.int .i64 0) := HB3.out.1.cell_ rfl
    have y11 := HB3.out.1.frozen 11
    have z12 : w3.cell? ⟨w.heap.size, 12, none⟩ = some (.int .i64 0) := HB3.out.1.cell_ rfl
    have y12 := HB3.out.1.frozen 12
    have zlt := HB3.out.1.lt
    go_wp2_with fail
    exact bodyPost_ret (results_cell_tmp rfl _ _ w.heap.size 31 #[.int .i64 0, .int .i64 0, .int .i64 0, .string ⟨#[]⟩, .string ⟨#[]⟩, .bool false, .int .i64 0, .int .i64 0, .int .i64 0, .int .i64 0, .int .i64 0, .int .i64 0, .int .i64 0] _ _ rfl rfl ((HB3.out.1).setAll #[.int .i64 0, .int .i64 0, .int .i64 0, .string ⟨#[]⟩, .string ⟨#[]⟩, .bool false, .int .i64 0, .int .i64 0, .int .i64 0, .int .i64 0, .int .i64 0, .int .i64 0, .int .i64 0] rfl) Tryz.underlying31 rfl infoEra) rfl ⟨by rw [← HR.out]; rfl, below_sets (Nat.le_refl _) (#[.int .i64 0, .int .i64 0, .int .i64 0, .string ⟨#[]⟩, .string ⟨#[]⟩, .bool false, .int .i64 0, .int .i64 0, .int .i64 0, .int .i64 0, .int .i64 0, .int .i64 0, .int .i64 0] : Array Value).toList 0 _ HB3.out.2.2.1⟩
  rw [if_neg (by rw [hf]; decide)] at hR
  clear hf
  have q4 : w3.cell? ⟨g, 4, none⟩ = some (.string ⟨#[]⟩) := HB3.out.2.1.cell_ rfl
  have f4 := HB3.out.2.1.frozen 4
  have hlt := HB3.out.2.1.lt
  obtain ⟨w5, hw5⟩ : ∃ W, w3.setCell ⟨g, 4, none⟩ (.string s2) = W := ⟨_, rfl⟩
  have HB5 := Lib.hid (show Blk w5 w.heap.size 31 #[.int .i64 0, .int .i64 0, .int .i64 0, .string ⟨#[]⟩, .string ⟨#[]⟩, .bool false, .int .i64 0, .int .i64 0, .int .i64 0, .int .i64 0, .int .i64 0, .int .i64 0, .int .i64 0] ∧ Blk w5 g 31 #[.int .i64 x, .int .i64 kd, .int .i64 sv, .string sn, .string s2, .bool false, .int .i64 0, .int .i64 0, .int .i64 0, .int .i64 0, .int .i64 0, .int .i64 0, .int .i64 0] ∧ Below w.heap.size w w5 ∧ w.heap.size < g from hw5 ▸ ⟨HB3.out.1.far (show w.heap.size ≠ g by have := HB3.out.2.2.2; omega) _, HB3.out.2.1.set_ 4 _, HB3.out.2.2.1.setCell (show w.heap.size ≤ g by have := HB3.out.2.2.2; omega) _, HB3.out.2.2.2⟩)
  go_upto_region 13 with fail
  try simp only [hw5]
  clear hw5 HB3 q4 f4 hlt k2
  rw [if_pos (by rfl)] at hR
  have HR := Lib.hid hR
  clear hR
  obtain ⟨C, hCC⟩ : ∃ C : Array Value, #[.int .i64 x, .int .i64 kd, .int .i64 sv, .string sn, .string s2, .bool false, .int .i64 0, .int .i64 0, .int .i64 0, .int .i64 0, .int .i64 0, .int .i64 0, .int .i64 0] = C := ⟨_, rfl⟩
  have Hi := Lib.hid (show (Tryz.prog.info? 31).map (·.size) = some C.size ∧ C.all (·.oneCell') = true ∧ C.size = 13 from hCC ▸ ⟨infoEra, by simp [Value.oneCell'], rfl⟩)
  rw [hCC] at HB5
  have HCC := Lib.hid hCC
  clear hCC
  go_wp2_with (first
    | (refine wpList_load_row rfl 31 (.tmp 6) rfl g rfl 31 C (0, 0) _ HB5.out.2.1 Tryz.underlying31 rfl Hi.out.1 ?_)
    | (refine wpList_store_mid rfl 31 (.tmp 2) (.tmp 54) rfl (w.heap.size) 0 C rfl rfl (HB5.out.1.there (by rw [Hi.out.2.2]; decide)) Hi.out.1 Hi.out.2.1 ?_))
  refine bodyPost_ret (results_cell_tmp rfl _ _ (w.heap.size) 31 C _ _ rfl rfl (HB5.out.1.setAll C Hi.out.2.2) Tryz.underlying31 rfl Hi.out.1) rfl ⟨by rw [← HCC.out, ← HR.out]; simp [EraP.cells, UntilP.none], below_sets (Nat.le_refl _) _ _ _ HB5.out.2.2.1⟩

set_option maxRecDepth 100000 in
set_option maxHeartbeats 2000000 in
theorem r11parse4 (b o c : Nat) (s0 s1 s2 s3 : ByteArray) (w : World) (hb : b < w.heap.size) (hc : 4 ≤ c) (hs0 : s0.size ≤ 1048576) (hs1 : s1.size ≤ 1048576) (hs2 : s2.size ≤ 1048576) (hs3 : s3.size ≤ 1048576)
    (hat : StrRow w b o [s0.data.toList, s1.data.toList, s2.data.toList, s3.data.toList]) :
    Calls Tryz.prog 12 #[.slice (some ⟨b, o, none⟩) 4 c] w fun e w' => e = .returned (.tuple #[.agg (eraR [s0.data.toList, s1.data.toList, s2.data.toList, s3.data.toList]).1.cells, .int .i64 (eraR [s0.data.toList, s1.data.toList, s2.data.toList, s3.data.toList]).2]) ∧ Below w.heap.size w w' := by
  obtain ⟨R, hR⟩ : ∃ R, eraR [s0.data.toList, s1.data.toList, s2.data.toList, s3.data.toList] = R := ⟨_, rfl⟩
  rw [hR]
  have HRow := Lib.hid (show ∀ W, Below w.heap.size w W → W.cell? ⟨b, o, none⟩ = some (.string s0) ∧ W.cell? ⟨b, o + 1, none⟩ = some (.string s1) ∧ W.cell? ⟨b, o + 2, none⟩ = some (.string s2) from fun W hW => ⟨by have := (hat.below hW).at_ 0 _ rfl; rwa [ba_list] at this, by have := (hat.below hW).at_ 1 _ rfl; rwa [ba_list] at this, by have := (hat.below hW).at_ 2 _ rfl; rwa [ba_list] at this⟩)
  unfold eraR at hR
  rw [if_neg (by simp)] at hR
  simp only [List.getD_cons_zero, List.getD_cons_succ] at hR
  have HP := Lib.hid (fun W => r4parse_any s0 W hs0)
  have HRu := Lib.hid (fun W off => r11rules_any s1 off W hs1)
  have HF := Lib.hid (fun W => calls_flip (r11written_any s2 W hs2))
  have HE := Lib.hid (show ∀ W c, Below w.heap.size w W → Calls Tryz.prog 25 #[.slice (some ⟨b, o + 3, none⟩) 1 c] W fun e w' => EndC [s3.data.toList] e ∧ Below W.heap.size W w' from fun W c hW => r11end_any b (o + 3) 1 c [s3.data.toList] W (hat.below hW).tail.tail.tail rfl (by decide) (by decide) (by intro l hl; simp only [List.mem_cons, List.not_mem_nil, or_false] at hl; subst hl <;> simpa))
  have hE : List.drop 3 [s0.data.toList, s1.data.toList, s2.data.toList, s3.data.toList] = [s3.data.toList] := rfl
  rw [hE] at hR
  clear hE
  have hcc : ¬ c = 3 := by omega
  have hcc2 : (3 : Int) ≤ (c : Int) := by omega
  clear hat
  have HB0 := Lib.hid (And.intro (Blk.new' w 31 #[.int .i64 0, .int .i64 0, .int .i64 0, .string ⟨#[]⟩, .string ⟨#[]⟩, .bool false, .int .i64 0, .int .i64 0, .int .i64 0, .int .i64 0, .int .i64 0, .int .i64 0, .int .i64 0] rfl) ((Below.refl w.heap.size w).alloc (Nat.le_refl _) (.cells #[.int .i64 0, .int .i64 0, .int .i64 0, .string ⟨#[]⟩, .string ⟨#[]⟩, .bool false, .int .i64 0, .int .i64 0, .int .i64 0, .int .i64 0, .int .i64 0, .int .i64 0, .int .i64 0] 31)))
  generalize offParseR s0.data.toList = p0 at *
  obtain ⟨x, e0⟩ := p0
  obtain ⟨k0, -⟩ := HRow.out _ HB0.out.2
  go_enter Tryz.func12, Tryz.ntmps12
  go_wp2_with fail
  refine (HP.out _).mono ?_
  rintro e w1 ⟨rfl, hb1⟩
  have HB1 := Lib.hid (And.intro (HB0.out.1.below hb1 HB0.out.1.lt) (HB0.out.2.trans (hb1.mono HB0.out.2.size)))
  clear hb1 HB0 HP k0
  by_cases hx : e0 ≠ 0
  · rw [if_pos hx] at hR
    have hx2 : (e0 != 0) = true := bne_iff_ne.2 hx
    have HR := Lib.hid hR
    clear hR hx
    have z0 : w1.cell? ⟨w.heap.size, 0, none⟩ = some (.int .i64 0) := HB1.out.1.cell_ rfl
    have y0 := HB1.out.1.frozen 0
    have z1 : w1.cell? ⟨w.heap.size, 1, none⟩ = some (.int .i64 0) := HB1.out.1.cell_ rfl
    have y1 := HB1.out.1.frozen 1
    have z2 : w1.cell? ⟨w.heap.size, 2, none⟩ = some (.int .i64 0) := HB1.out.1.cell_ rfl
    have y2 := HB1.out.1.frozen 2
    have z3 : w1.cell? ⟨w.heap.size, 3, none⟩ = some (.string ⟨#[]⟩) := HB1.out.1.cell_ rfl
    have y3 := HB1.out.1.frozen 3
    have z4 : w1.cell? ⟨w.heap.size, 4, none⟩ = some (.string ⟨#[]⟩) := HB1.out.1.cell_ rfl
    have y4 := HB1.out.1.frozen 4
    have z5 : w1.cell? ⟨w.heap.size, 5, none⟩ = some (.bool false) := HB1.out.1.cell_ rfl
    have y5 := HB1.out.1.frozen 5
    have z6 : w1.cell? ⟨w.heap.size, 6, none⟩ = some (.int .i64 0) := HB1.out.1.cell_ rfl
    have y6 := HB1.out.1.frozen 6
    have z7 : w1.cell? ⟨w.heap.size, 7, none⟩ = some (.int .i64 0) := HB1.out.1.cell_ rfl
    have y7 := HB1.out.1.frozen 7
    have z8 : w1.cell? ⟨w.heap.size, 8, none⟩ = some (.int .i64 0) := HB1.out.1.cell_ rfl
    have y8 := HB1.out.1.frozen 8
    have z9 : w1.cell? ⟨w.heap.size, 9, none⟩ = some (.int .i64 0) := HB1.out.1.cell_ rfl
    have y9 := HB1.out.1.frozen 9
    have z10 : w1.cell? ⟨w.heap.size, 10, none⟩ = some (.int .i64 0) := HB1.out.1.cell_ rfl
    have y10 := HB1.out.1.frozen 10
    have z11 : w1.cell? ⟨w.heap.size, 11, none⟩ = some (.int .i64 0) := HB1.out.1.cell_ rfl
    have y11 := HB1.out.1.frozen 11
    have z12 : w1.cell? ⟨w.heap.size, 12, none⟩ = some (.int .i64 0) := HB1.out.1.cell_ rfl
    have y12 := HB1.out.1.frozen 12
    have zlt := HB1.out.1.lt
    go_wp2_with fail
    exact bodyPost_ret (results_cell_tmp rfl _ _ w.heap.size 31 #[.int .i64 0, .int .i64 0, .int .i64 0, .string ⟨#[]⟩, .string ⟨#[]⟩, .bool false, .int .i64 0, .int .i64 0, .int .i64 0, .int .i64 0, .int .i64 0, .int .i64 0, .int .i64 0] _ _ rfl rfl ((HB1.out.1).setAll #[.int .i64 0, .int .i64 0, .int .i64 0, .string ⟨#[]⟩, .string ⟨#[]⟩, .bool false, .int .i64 0, .int .i64 0, .int .i64 0, .int .i64 0, .int .i64 0, .int .i64 0, .int .i64 0] rfl) Tryz.underlying31 rfl infoEra) rfl ⟨by rw [← HR.out]; rfl, below_sets (Nat.le_refl _) (#[.int .i64 0, .int .i64 0, .int .i64 0, .string ⟨#[]⟩, .string ⟨#[]⟩, .bool false, .int .i64 0, .int .i64 0, .int .i64 0, .int .i64 0, .int .i64 0, .int .i64 0, .int .i64 0] : Array Value).toList 0 _ HB1.out.2⟩
  rw [if_neg hx] at hR
  obtain rfl : e0 = 0 := by simpa using hx
  clear hx
  obtain ⟨-, k1, -⟩ := HRow.out _ HB1.out.2
  go_wp2_with fail
  refine (HRu.out _ _).mono ?_
  rintro e w2 ⟨⟨C, rfl, hC1, hC2, hC3⟩, hb2⟩
  have HB2 := Lib.hid (And.intro (HB1.out.1.below hb2 HB1.out.1.lt) (HB1.out.2.trans (hb2.mono HB1.out.2.size)))
  clear hb2 HB1 HRu k1
  by_cases hx : (rulesR s1.data.toList).2 ≠ 0
  · rw [if_pos hx] at hR
    have hx2 : ((rulesR s1.data.toList).2 != 0) = true := bne_iff_ne.2 hx
    have HR := Lib.hid hR
    have HC := Lib.hid (show (Tryz.prog.info? 31).map (·.size) = some C.size ∧ C.all (·.oneCell') = true ∧ C.size = 13 from ⟨by rw [hC1]; exact infoEra, hC2, hC1⟩)
    clear hR hx hC1 hC2 hC3
    generalize (rulesR s1.data.toList).2 = e1 at *
    have HN := Lib.hid (Blk.new' w2 31 #[.int .i64 0, .int .i64 0, .int .i64 0, .string ⟨#[]⟩, .string ⟨#[]⟩, .bool false, .int .i64 0, .int .i64 0, .int .i64 0, .int .i64 0, .int .i64 0, .int .i64 0, .int .i64 0] rfl)
    go_upto_region 7 with (refine wpList_store_mid rfl 31 (.tmp 6) (.tmp 35) rfl w2.heap.size 0 C rfl rfl (HN.out.there (by rw [HC.out.2.2]; decide)) HC.out.1 HC.out.2.1 ?_)
    have HB3 := Lib.hid (show Blk ((w2.alloc (.cells #[.int .i64 0, .int .i64 0, .int .i64 0, .string ⟨#[]⟩, .string ⟨#[]⟩, .bool false, .int .i64 0, .int .i64 0, .int .i64 0, .int .i64 0, .int .i64 0, .int .i64 0, .int .i64 0] 31)).setCells w2.heap.size 0 C.toList) w.heap.size 31 #[.int .i64 0, .int .i64 0, .int .i64 0, .string ⟨#[]⟩, .string ⟨#[]⟩, .bool false, .int .i64 0, .int .i64 0, .int .i64 0, .int .i64 0, .int .i64 0, .int .i64 0, .int .i64 0] ∧ Below w.heap.size w ((w2.alloc (.cells #[.int .i64 0, .int .i64 0, .int .i64 0, .string ⟨#[]⟩, .string ⟨#[]⟩, .bool false, .int .i64 0, .int .i64 0, .int .i64 0, .int .i64 0, .int .i64 0, .int .i64 0, .int .i64 0] 31)).setCells w2.heap.size 0 C.toList) from ⟨Blk.farSets (HB2.out.1.alloc _) (by have := HB2.out.1.lt; omega) _ _, below_sets (HB2.out.2.size) _ _ _ (rbelow_alloc HB2.out.2 _)⟩)
    generalize (w2.alloc (.cells #[.int .i64 0, .int .i64 0, .int .i64 0, .string ⟨#[]⟩, .string ⟨#[]⟩, .bool false, .int .i64 0, .int .i64 0, .int .i64 0, .int .i64 0, .int .i64 0, .int .i64 0, .int .i64 0] 31)).setCells w2.heap.size 0 C.toList = w3 at *
    clear HN HB2
    have z0 : w3.cell? ⟨w.heap.size, 0, none⟩ = some (.int .i64 0) := HB3.out.1.cell_ rfl
    have y0 := HB3.out.1.frozen 0
    have z1 : w3.cell? ⟨w.heap.size, 1, none⟩ = some (.int .i64 0) := HB3.out.1.cell_ rfl
    have y1 := HB3.out.1.frozen 1
    have z2 : w3.cell? ⟨w.heap.size, 2, none⟩ = some (.int .i64 0) := HB3.out.1.cell_ rfl
    have y2 := HB3.out.1.frozen 2
    have z3 : w3.cell? ⟨w.heap.size, 3, none⟩ = some (.string ⟨#[]⟩) := HB3.out.1.cell_ rfl
    have y3 := HB3.out.1.frozen 3
    have z4 : w3.cell? ⟨w.heap.size, 4, none⟩ = some (.string ⟨#[]⟩) := HB3.out.1.cell_ rfl
    have y4 := HB3.out.1.frozen 4
    have z5 : w3.cell? ⟨w.heap.size, 5, none⟩ = some (.bool false) := HB3.out.1.cell_ rfl
    have y5 := HB3.out.1.frozen 5
    have z6 : w3.cell? ⟨w.heap.size, 6, none⟩ = some (.int .i64 0) := HB3.out.1.cell_ rfl
    have y6 := HB3.out.1.frozen 6
    have z7 : w3.cell? ⟨w.heap.size, 7, none⟩ = some (.int .i64 0) := HB3.out.1.cell_ rfl
    have y7 := HB3.out.1.frozen 7
    have z8 : w3.cell? ⟨w.heap.size, 8, none⟩ = some (.int .i64 0) := HB3.out.1.cell_ rfl
    have y8 := HB3.out.1.frozen 8
    have z9 : w3.cell? ⟨w.heap.size, 9, none⟩ = some (.int .i64 0) := HB3.out.1.cell_ rfl
    have y9 := HB3.out.1.frozen 9
    have z10 : w3.cell? ⟨w.heap.size, 10, none⟩ = some (.int .i64 0) := HB3.out.1.cell_ rfl
    have y10 := HB3.out.1.frozen 10
    have z11 : w3.cell? ⟨w.heap.size, 11, none⟩ = some (.int .i64 0) := HB3.out.1.cell_ rfl
    have y11 := HB3.out.1.frozen 11
    have z12 : w3.cell? ⟨w.heap.size, 12, none⟩ = some (.int .i64 0) := HB3.out.1.cell_ rfl
    have y12 := HB3.out.1.frozen 12
    have zlt := HB3.out.1.lt
    go_wp2_with fail
    exact bodyPost_ret (results_cell_tmp rfl _ _ w.heap.size 31 #[.int .i64 0, .int .i64 0, .int .i64 0, .string ⟨#[]⟩, .string ⟨#[]⟩, .bool false, .int .i64 0, .int .i64 0, .int .i64 0, .int .i64 0, .int .i64 0, .int .i64 0, .int .i64 0] _ _ rfl rfl ((HB3.out.1).setAll #[.int .i64 0, .int .i64 0, .int .i64 0, .string ⟨#[]⟩, .string ⟨#[]⟩, .bool false, .int .i64 0, .int .i64 0, .int .i64 0, .int .i64 0, .int .i64 0, .int .i64 0, .int .i64 0] rfl) Tryz.underlying31 rfl infoEra) rfl ⟨by rw [← HR.out]; rfl, below_sets (Nat.le_refl _) (#[.int .i64 0, .int .i64 0, .int .i64 0, .string ⟨#[]⟩, .string ⟨#[]⟩, .bool false, .int .i64 0, .int .i64 0, .int .i64 0, .int .i64 0, .int .i64 0, .int .i64 0, .int .i64 0] : Array Value).toList 0 _ HB3.out.2⟩
  rw [if_neg hx] at hR
  have hr1 : (rulesR s1.data.toList).2 = 0 := by simpa using hx
  obtain rfl := hC3 hr1
  clear hC1 hC2 hC3 hx
  generalize rulesR s1.data.toList = RR at *
  obtain ⟨⟨kd, sv, sl⟩, r1⟩ := RR
  obtain rfl : r1 = 0 := hr1
  obtain ⟨sn, rfl⟩ : ∃ sn : ByteArray, sl = sn.data.toList := ⟨⟨sl.toArray⟩, by simp⟩
  simp only [ba_list]
  go_upto_region 7 with fail
  have HB3 := Lib.hid (show Blk (w2.alloc (.cells #[.int .i64 x, .int .i64 kd, .int .i64 sv, .string sn, .string ⟨#[]⟩, .bool false, .int .i64 0, .int .i64 0, .int .i64 0, .int .i64 0, .int .i64 0, .int .i64 0, .int .i64 0] 31)) w.heap.size 31 #[.int .i64 0, .int .i64 0, .int .i64 0, .string ⟨#[]⟩, .string ⟨#[]⟩, .bool false, .int .i64 0, .int .i64 0, .int .i64 0, .int .i64 0, .int .i64 0, .int .i64 0, .int .i64 0] ∧ Blk (w2.alloc (.cells #[.int .i64 x, .int .i64 kd, .int .i64 sv, .string sn, .string ⟨#[]⟩, .bool false, .int .i64 0, .int .i64 0, .int .i64 0, .int .i64 0, .int .i64 0, .int .i64 0, .int .i64 0] 31)) w2.heap.size 31 #[.int .i64 x, .int .i64 kd, .int .i64 sv, .string sn, .string ⟨#[]⟩, .bool false, .int .i64 0, .int .i64 0, .int .i64 0, .int .i64 0, .int .i64 0, .int .i64 0, .int .i64 0] ∧ Below w.heap.size w (w2.alloc (.cells #[.int .i64 x, .int .i64 kd, .int .i64 sv, .string sn, .string ⟨#[]⟩, .bool false, .int .i64 0, .int .i64 0, .int .i64 0, .int .i64 0, .int .i64 0, .int .i64 0, .int .i64 0] 31)) ∧ w.heap.size < w2.heap.size from ⟨HB2.out.1.alloc _, Blk.new' _ _ _ rfl, rbelow_alloc HB2.out.2 _, HB2.out.1.lt⟩)
  generalize w2.alloc (.cells #[.int .i64 x, .int .i64 kd, .int .i64 sv, .string sn, .string ⟨#[]⟩, .bool false, .int .i64 0, .int .i64 0, .int .i64 0, .int .i64 0, .int .i64 0, .int .i64 0, .int .i64 0] 31) = w3 at *
  clear HB2
  generalize w2.heap.size = g at *
  obtain ⟨-, -, k2⟩ := HRow.out _ HB3.out.2.2.1
  go_wp2_with fail
  refine (HF.out _).mono ?_
  rintro e w4 ⟨rfl, rfl⟩
  cases hf : fmtB s2.data.toList
  · rw [if_pos hf] at hR
    have HR := Lib.hid hR
    clear hR hf
    have z0 : w3.cell? ⟨w.heap.size, 0, none⟩ = some (.int .i64 0) := HB3.out.1.cell_ rfl
    have y0 := HB3.out.1.frozen 0
    have z1 : w3.cell? ⟨w.heap.size, 1, none⟩ = some (.int .i64 0) := HB3.out.1.cell_ rfl
    have y1 := HB3.out.1.frozen 1
    have z2 : w3.cell? ⟨w.heap.size, 2, none⟩ = some (.int .i64 0) := HB3.out.1.cell_ rfl
    have y2 := HB3.out.1.frozen 2
    have z3 : w3.cell? ⟨w.heap.size, 3, none⟩ = some (.string ⟨#[]⟩) := HB3.out.1.cell_ rfl
    have y3 := HB3.out.1.frozen 3
    have z4 : w3.cell? ⟨w.heap.size, 4, none⟩ = some (.string ⟨#[]⟩) := HB3.out.1.cell_ rfl
    have y4 := HB3.out.1.frozen 4
    have z5 : w3.cell? ⟨w.heap.size, 5, none⟩ = some (.bool false) := HB3.out.1.cell_ rfl
    have y5 := HB3.out.1.frozen 5
    have z6 : w3.cell? ⟨w.heap.size, 6, none⟩ = some (.int .i64 0) := HB3.out.1.cell_ rfl
    have y6 := HB3.out.1.frozen 6
    have z7 : w3.cell? ⟨w.heap.size, 7, none⟩ = some (.int .i64 0) := HB3.out.1.cell_ rfl
    have y7 := HB3.out.1.frozen 7
    have z8 : w3.cell? ⟨w.heap.size, 8, none⟩ = some (.int .i64 0) := HB3.out.1.cell_ rfl
    have y8 := HB3.out.1.frozen 8
    have z9 : w3.cell? ⟨w.heap.size, 9, none⟩ = some (.int .i64 0) := HB3.out.1.cell_ rfl
    have y9 := HB3.out.1.frozen 9
    have z10 : w3.cell? ⟨w.heap.size, 10, none⟩ = some (.int .i64 0) := HB3.out.1.cell_ rfl
    have y10 := HB3.out.1.frozen 10
    have z11 : w3.cell? ⟨w.heap.size, 11, none⟩ = some (.int .i64 0) := HB3.out.1.cell_ rfl
    have y11 := HB3.out.1.frozen 11
    have z12 : w3.cell? ⟨w.heap.size, 12, none⟩ = some (.int .i64 0) := HB3.out.1.cell_ rfl
    have y12 := HB3.out.1.frozen 12
    have zlt := HB3.out.1.lt
    go_wp2_with fail
    exact bodyPost_ret (results_cell_tmp rfl _ _ w.heap.size 31 #[.int .i64 0, .int .i64 0, .int .i64 0, .string ⟨#[]⟩, .string ⟨#[]⟩, .bool false, .int .i64 0, .int .i64 0, .int .i64 0, .int .i64 0, .int .i64 0, .int .i64 0, .int .i64 0] _ _ rfl rfl ((HB3.out.1).setAll #[.int .i64 0, .int .i64 0, .int .i64 0, .string ⟨#[]⟩, .string ⟨#[]⟩, .bool false, .int .i64 0, .int .i64 0, .int .i64 0, .int .i64 0, .int .i64 0, .int .i64 0, .int .i64 0] rfl) Tryz.underlying31 rfl infoEra) rfl ⟨by rw [← HR.out]; rfl, below_sets (Nat.le_refl _) (#[.int .i64 0, .int .i64 0, .int .i64 0, .string ⟨#[]⟩, .string ⟨#[]⟩, .bool false, .int .i64 0, .int .i64 0, .int .i64 0, .int .i64 0, .int .i64 0, .int .i64 0, .int .i64 0] : Array Value).toList 0 _ HB3.out.2.2.1⟩
  rw [if_neg (by rw [hf]; decide)] at hR
  clear hf
  have q4 : w3.cell? ⟨g, 4, none⟩ = some (.string ⟨#[]⟩) := HB3.out.2.1.cell_ rfl
  have f4 := HB3.out.2.1.frozen 4
  have hlt := HB3.out.2.1.lt
  obtain ⟨w5, hw5⟩ : ∃ W, w3.setCell ⟨g, 4, none⟩ (.string s2) = W := ⟨_, rfl⟩
  have HB5 := Lib.hid (show Blk w5 w.heap.size 31 #[.int .i64 0, .int .i64 0, .int .i64 0, .string ⟨#[]⟩, .string ⟨#[]⟩, .bool false, .int .i64 0, .int .i64 0, .int .i64 0, .int .i64 0, .int .i64 0, .int .i64 0, .int .i64 0] ∧ Blk w5 g 31 #[.int .i64 x, .int .i64 kd, .int .i64 sv, .string sn, .string s2, .bool false, .int .i64 0, .int .i64 0, .int .i64 0, .int .i64 0, .int .i64 0, .int .i64 0, .int .i64 0] ∧ Below w.heap.size w w5 ∧ w.heap.size < g from hw5 ▸ ⟨HB3.out.1.far (show w.heap.size ≠ g by have := HB3.out.2.2.2; omega) _, HB3.out.2.1.set_ 4 _, HB3.out.2.2.1.setCell (show w.heap.size ≤ g by have := HB3.out.2.2.2; omega) _, HB3.out.2.2.2⟩)
  go_upto_region 14 with fail
  try simp only [hw5]
  clear hw5 HB3 q4 f4 hlt k2
  rw [if_neg (by simp)] at hR
  go_wp2_with fail
  refine (HE.out _ _ HB5.out.2.2.1).mono ?_
  rintro e w6 ⟨⟨C, rfl, hC1, hC2, hC3⟩, hb⟩
  have HB6 := Lib.hid (show Blk w6 w.heap.size 31 #[.int .i64 0, .int .i64 0, .int .i64 0, .string ⟨#[]⟩, .string ⟨#[]⟩, .bool false, .int .i64 0, .int .i64 0, .int .i64 0, .int .i64 0, .int .i64 0, .int .i64 0, .int .i64 0] ∧ Blk w6 g 31 #[.int .i64 x, .int .i64 kd, .int .i64 sv, .string sn, .string s2, .bool false, .int .i64 0, .int .i64 0, .int .i64 0, .int .i64 0, .int .i64 0, .int .i64 0, .int .i64 0] ∧ Below w.heap.size w w6 ∧ w.heap.size < g from ⟨HB5.out.1.below hb HB5.out.1.lt, HB5.out.2.1.below hb HB5.out.2.1.lt, HB5.out.2.2.1.trans (hb.mono HB5.out.2.2.1.size), HB5.out.2.2.2⟩)
  clear hb HB5 HE
  generalize endR_ [s3.data.toList] = EE at *
  obtain ⟨⟨is, yr, mo, ⟨d1, d2, d3⟩, ⟨h1, h2⟩⟩, e3⟩ := EE
  by_cases hx : e3 ≠ 0
  · rw [if_pos hx] at hR
    have hx2 : (e3 != 0) = true := bne_iff_ne.2 hx
    have HR := Lib.hid hR
    have HC := Lib.hid (show (Tryz.prog.info? 29).map (·.size) = some C.size ∧ C.all (·.oneCell') = true ∧ C.size = 8 from ⟨by rw [hC1]; exact infoU, hC2, hC1⟩)
    clear hR hx hC1 hC2 hC3
    have HN := Lib.hid (Blk.new' w6 29 #[.bool false, .int .i64 0, .int .i64 0, .int .i64 0, .int .i64 0, .int .i64 0, .int .i64 0, .int .i64 0] rfl)
    go_upto_region 15 with (refine wpList_store_mid rfl 29 (.tmp 7) (.tmp 59) rfl w6.heap.size 0 C rfl rfl (HN.out.there (by rw [HC.out.2.2]; decide)) HC.out.1 HC.out.2.1 ?_)
    have HB7 := Lib.hid (show Blk ((w6.alloc (.cells #[.bool false, .int .i64 0, .int .i64 0, .int .i64 0, .int .i64 0, .int .i64 0, .int .i64 0, .int .i64 0] 29)).setCells w6.heap.size 0 C.toList) w.heap.size 31 #[.int .i64 0, .int .i64 0, .int .i64 0, .string ⟨#[]⟩, .string ⟨#[]⟩, .bool false, .int .i64 0, .int .i64 0, .int .i64 0, .int .i64 0, .int .i64 0, .int .i64 0, .int .i64 0] ∧ Below w.heap.size w ((w6.alloc (.cells #[.bool false, .int .i64 0, .int .i64 0, .int .i64 0, .int .i64 0, .int .i64 0, .int .i64 0, .int .i64 0] 29)).setCells w6.heap.size 0 C.toList) from ⟨Blk.farSets (HB6.out.1.alloc _) (by have := HB6.out.1.lt; omega) _ _, below_sets (HB6.out.2.2.1.size) _ _ _ (rbelow_alloc HB6.out.2.2.1 _)⟩)
    generalize (w6.alloc (.cells #[.bool false, .int .i64 0, .int .i64 0, .int .i64 0, .int .i64 0, .int .i64 0, .int .i64 0, .int .i64 0] 29)).setCells w6.heap.size 0 C.toList = w7 at *
    clear HN HB6
    have z0 : w7.cell? ⟨w.heap.size, 0, none⟩ = some (.int .i64 0) := HB7.out.1.cell_ rfl
    have y0 := HB7.out.1.frozen 0
    have z1 : w7.cell? ⟨w.heap.size, 1, none⟩ = some (.int .i64 0) := HB7.out.1.cell_ rfl
    have y1 := HB7.out.1.frozen 1
    have z2 : w7.cell? ⟨w.heap.size, 2, none⟩ = some (.int .i64 0) := HB7.out.1.cell_ rfl
    have y2 := HB7.out.1.frozen 2
    have z3 : w7.cell? ⟨w.heap.size, 3, none⟩ = some (.string ⟨#[]⟩) := HB7.out.1.cell_ rfl
    have y3 := HB7.out.1.frozen 3
    have z4 : w7.cell? ⟨w.heap.size, 4, none⟩ = some (.string ⟨#[]⟩) := HB7.out.1.cell_ rfl
    have y4 := HB7.out.1.frozen 4
    have z5 : w7.cell? ⟨w.heap.size, 5, none⟩ = some (.bool false) := HB7.out.1.cell_ rfl
    have y5 := HB7.out.1.frozen 5
    have z6 : w7.cell? ⟨w.heap.size, 6, none⟩ = some (.int .i64 0) := HB7.out.1.cell_ rfl
    have y6 := HB7.out.1.frozen 6
    have z7 : w7.cell? ⟨w.heap.size, 7, none⟩ = some (.int .i64 0) := HB7.out.1.cell_ rfl
    have y7 := HB7.out.1.frozen 7
    have z8 : w7.cell? ⟨w.heap.size, 8, none⟩ = some (.int .i64 0) := HB7.out.1.cell_ rfl
    have y8 := HB7.out.1.frozen 8
    have z9 : w7.cell? ⟨w.heap.size, 9, none⟩ = some (.int .i64 0) := HB7.out.1.cell_ rfl
    have y9 := HB7.out.1.frozen 9
    have z10 : w7.cell? ⟨w.heap.size, 10, none⟩ = some (.int .i64 0) := HB7.out.1.cell_ rfl
    have y10 := HB7.out.1.frozen 10
    have z11 : w7.cell? ⟨w.heap.size, 11, none⟩ = some (.int .i64 0) := HB7.out.1.cell_ rfl
    have y11 := HB7.out.1.frozen 11
    have z12 : w7.cell? ⟨w.heap.size, 12, none⟩ = some (.int .i64 0) := HB7.out.1.cell_ rfl
    have y12 := HB7.out.1.frozen 12
    have zlt := HB7.out.1.lt
    go_wp2_with fail
    exact bodyPost_ret (results_cell_tmp rfl _ _ w.heap.size 31 #[.int .i64 0, .int .i64 0, .int .i64 0, .string ⟨#[]⟩, .string ⟨#[]⟩, .bool false, .int .i64 0, .int .i64 0, .int .i64 0, .int .i64 0, .int .i64 0, .int .i64 0, .int .i64 0] _ _ rfl rfl ((HB7.out.1).setAll #[.int .i64 0, .int .i64 0, .int .i64 0, .string ⟨#[]⟩, .string ⟨#[]⟩, .bool false, .int .i64 0, .int .i64 0, .int .i64 0, .int .i64 0, .int .i64 0, .int .i64 0, .int .i64 0] rfl) Tryz.underlying31 rfl infoEra) rfl ⟨by rw [← HR.out]; rfl, below_sets (Nat.le_refl _) (#[.int .i64 0, .int .i64 0, .int .i64 0, .string ⟨#[]⟩, .string ⟨#[]⟩, .bool false, .int .i64 0, .int .i64 0, .int .i64 0, .int .i64 0, .int .i64 0, .int .i64 0, .int .i64 0] : Array Value).toList 0 _ HB7.out.2⟩
  rw [if_neg hx] at hR
  obtain rfl : e3 = 0 := by simpa using hx
  obtain rfl := hC3 rfl
  simp only [UntilP.arr]
  clear hC1 hC2 hC3 hx
  have q5 : w6.cell? ⟨g, 5, none⟩ = some (.bool false) := HB6.out.2.1.cell_ rfl
  have f5 := HB6.out.2.1.frozen 5
  have q6 : w6.cell? ⟨g, 6, none⟩ = some (.int .i64 0) := HB6.out.2.1.cell_ rfl
  have f6 := HB6.out.2.1.frozen 6
  have q7 : w6.cell? ⟨g, 7, none⟩ = some (.int .i64 0) := HB6.out.2.1.cell_ rfl
  have f7 := HB6.out.2.1.frozen 7
  have q8 : w6.cell? ⟨g, 8, none⟩ = some (.int .i64 0) := HB6.out.2.1.cell_ rfl
  have f8 := HB6.out.2.1.frozen 8
  have q9 : w6.cell? ⟨g, 9, none⟩ = some (.int .i64 0) := HB6.out.2.1.cell_ rfl
  have f9 := HB6.out.2.1.frozen 9
  have q10 : w6.cell? ⟨g, 10, none⟩ = some (.int .i64 0) := HB6.out.2.1.cell_ rfl
  have f10 := HB6.out.2.1.frozen 10
  have q11 : w6.cell? ⟨g, 11, none⟩ = some (.int .i64 0) := HB6.out.2.1.cell_ rfl
  have f11 := HB6.out.2.1.frozen 11
  have q12 : w6.cell? ⟨g, 12, none⟩ = some (.int .i64 0) := HB6.out.2.1.cell_ rfl
  have f12 := HB6.out.2.1.frozen 12
  have hlt := HB6.out.2.1.lt
  obtain ⟨w7, hw7⟩ : ∃ W, (((((((((w6.setCell ⟨g, 5, none⟩ (.bool is)).setCell ⟨g, 6, none⟩ (.int .i64 yr)).setCell ⟨g, 7, none⟩ (.int .i64 mo)).setCell ⟨g, 8, none⟩ (.int .i64 d1)).setCell ⟨g, 9, none⟩ (.int .i64 d2)).setCell ⟨g, 10, none⟩ (.int .i64 d3)).setCell ⟨g, 11, none⟩ (.int .i64 h1)).setCell ⟨g, 12, none⟩ (.int .i64 h2)).alloc (.cells #[.bool is, .int .i64 yr, .int .i64 mo, .int .i64 d1, .int .i64 d2, .int .i64 d3, .int .i64 h1, .int .i64 h2] 29)) = W := ⟨_, rfl⟩
  have HB7 := Lib.hid (show Blk w7 w.heap.size 31 #[.int .i64 0, .int .i64 0, .int .i64 0, .string ⟨#[]⟩, .string ⟨#[]⟩, .bool false, .int .i64 0, .int .i64 0, .int .i64 0, .int .i64 0, .int .i64 0, .int .i64 0, .int .i64 0] ∧ Blk w7 g 31 #[.int .i64 x, .int .i64 kd, .int .i64 sv, .string sn, .string s2, .bool is, .int .i64 yr, .int .i64 mo, .int .i64 d1, .int .i64 d2, .int .i64 d3, .int .i64 h1, .int .i64 h2] ∧ Below w.heap.size w w7 ∧ w.heap.size < g from by
    rw [← hw7]
    exact ⟨(Blk.farSets HB6.out.1 (show w.heap.size ≠ g by have := HB6.out.2.2.2; omega) [.bool is, .int .i64 yr, .int .i64 mo, .int .i64 d1, .int .i64 d2, .int .i64 d3, .int .i64 h1, .int .i64 h2] 5).alloc _, (Blk.setMid [.int .i64 x, .int .i64 kd, .int .i64 sv, .string sn, .string s2] [.bool false, .int .i64 0, .int .i64 0, .int .i64 0, .int .i64 0, .int .i64 0, .int .i64 0, .int .i64 0] [.bool is, .int .i64 yr, .int .i64 mo, .int .i64 d1, .int .i64 d2, .int .i64 d3, .int .i64 h1, .int .i64 h2] [] HB6.out.2.1 rfl).alloc _, rbelow_alloc (below_sets (show w.heap.size ≤ g by have := HB6.out.2.2.2; omega) [.bool is, .int .i64 yr, .int .i64 mo, .int .i64 d1, .int .i64 d2, .int .i64 d3, .int .i64 h1, .int .i64 h2] 5 _ HB6.out.2.2.1) _, HB6.out.2.2.2⟩)
  go_upto_region 18 with fail
  try simp only [hw7]
  clear hw7 HB6 q5 f5 q6 f6 q7 f7 q8 f8 q9 f9 q10 f10 q11 f11 q12 f12 hlt
  have HR := Lib.hid hR
  clear hR
  obtain ⟨C, hCC⟩ : ∃ C : Array Value, #[.int .i64 x, .int .i64 kd, .int .i64 sv, .string sn, .string s2, .bool is, .int .i64 yr, .int .i64 mo, .int .i64 d1, .int .i64 d2, .int .i64 d3, .int .i64 h1, .int .i64 h2] = C := ⟨_, rfl⟩
  have Hi := Lib.hid (show (Tryz.prog.info? 31).map (·.size) = some C.size ∧ C.all (·.oneCell') = true ∧ C.size = 13 from hCC ▸ ⟨infoEra, by simp [Value.oneCell'], rfl⟩)
  rw [hCC] at HB7
  have HCC := Lib.hid hCC
  clear hCC
  go_wp2_with (first
    | (refine wpList_load_row rfl 31 (.tmp 6) rfl g rfl 31 C (0, 0) _ HB7.out.2.1 Tryz.underlying31 rfl Hi.out.1 ?_)
    | (refine wpList_store_mid rfl 31 (.tmp 2) (.tmp 67) rfl (w.heap.size) 0 C rfl rfl (HB7.out.1.there (by rw [Hi.out.2.2]; decide)) Hi.out.1 Hi.out.2.1 ?_))
  refine bodyPost_ret (results_cell_tmp rfl _ _ (w.heap.size) 31 C _ _ rfl rfl (HB7.out.1.setAll C Hi.out.2.2) Tryz.underlying31 rfl Hi.out.1) rfl ⟨by rw [← HCC.out, ← HR.out]; simp [EraP.cells, UntilP.none], below_sets (Nat.le_refl _) _ _ _ HB7.out.2.2.1⟩

set_option maxRecDepth 100000 in
set_option maxHeartbeats 2000000 in
theorem r11parse5 (b o c : Nat) (s0 s1 s2 s3 s4 : ByteArray) (w : World) (hb : b < w.heap.size) (hc : 5 ≤ c) (hs0 : s0.size ≤ 1048576) (hs1 : s1.size ≤ 1048576) (hs2 : s2.size ≤ 1048576) (hs3 : s3.size ≤ 1048576) (hs4 : s4.size ≤ 1048576)
    (hat : StrRow w b o [s0.data.toList, s1.data.toList, s2.data.toList, s3.data.toList, s4.data.toList]) :
    Calls Tryz.prog 12 #[.slice (some ⟨b, o, none⟩) 5 c] w fun e w' => e = .returned (.tuple #[.agg (eraR [s0.data.toList, s1.data.toList, s2.data.toList, s3.data.toList, s4.data.toList]).1.cells, .int .i64 (eraR [s0.data.toList, s1.data.toList, s2.data.toList, s3.data.toList, s4.data.toList]).2]) ∧ Below w.heap.size w w' := by
  obtain ⟨R, hR⟩ : ∃ R, eraR [s0.data.toList, s1.data.toList, s2.data.toList, s3.data.toList, s4.data.toList] = R := ⟨_, rfl⟩
  rw [hR]
  have HRow := Lib.hid (show ∀ W, Below w.heap.size w W → W.cell? ⟨b, o, none⟩ = some (.string s0) ∧ W.cell? ⟨b, o + 1, none⟩ = some (.string s1) ∧ W.cell? ⟨b, o + 2, none⟩ = some (.string s2) from fun W hW => ⟨by have := (hat.below hW).at_ 0 _ rfl; rwa [ba_list] at this, by have := (hat.below hW).at_ 1 _ rfl; rwa [ba_list] at this, by have := (hat.below hW).at_ 2 _ rfl; rwa [ba_list] at this⟩)
  unfold eraR at hR
  rw [if_neg (by simp)] at hR
  simp only [List.getD_cons_zero, List.getD_cons_succ] at hR
  have HP := Lib.hid (fun W => r4parse_any s0 W hs0)
  have HRu := Lib.hid (fun W off => r11rules_any s1 off W hs1)
  have HF := Lib.hid (fun W => calls_flip (r11written_any s2 W hs2))
  have HE := Lib.hid (show ∀ W c, Below w.heap.size w W → Calls Tryz.prog 25 #[.slice (some ⟨b, o + 3, none⟩) 2 c] W fun e w' => EndC [s3.data.toList, s4.data.toList] e ∧ Below W.heap.size W w' from fun W c hW => r11end_any b (o + 3) 2 c [s3.data.toList, s4.data.toList] W (hat.below hW).tail.tail.tail rfl (by decide) (by decide) (by intro l hl; simp only [List.mem_cons, List.not_mem_nil, or_false] at hl; rcases hl with rfl | rfl <;> simpa))
  have hE : List.drop 3 [s0.data.toList, s1.data.toList, s2.data.toList, s3.data.toList, s4.data.toList] = [s3.data.toList, s4.data.toList] := rfl
  rw [hE] at hR
  clear hE
  have hcc : ¬ c = 3 := by omega
  have hcc2 : (3 : Int) ≤ (c : Int) := by omega
  clear hat
  have HB0 := Lib.hid (And.intro (Blk.new' w 31 #[.int .i64 0, .int .i64 0, .int .i64 0, .string ⟨#[]⟩, .string ⟨#[]⟩, .bool false, .int .i64 0, .int .i64 0, .int .i64 0, .int .i64 0, .int .i64 0, .int .i64 0, .int .i64 0] rfl) ((Below.refl w.heap.size w).alloc (Nat.le_refl _) (.cells #[.int .i64 0, .int .i64 0, .int .i64 0, .string ⟨#[]⟩, .string ⟨#[]⟩, .bool false, .int .i64 0, .int .i64 0, .int .i64 0, .int .i64 0, .int .i64 0, .int .i64 0, .int .i64 0] 31)))
  generalize offParseR s0.data.toList = p0 at *
  obtain ⟨x, e0⟩ := p0
  obtain ⟨k0, -⟩ := HRow.out _ HB0.out.2
  go_enter Tryz.func12, Tryz.ntmps12
  go_wp2_with fail
  refine (HP.out _).mono ?_
  rintro e w1 ⟨rfl, hb1⟩
  have HB1 := Lib.hid (And.intro (HB0.out.1.below hb1 HB0.out.1.lt) (HB0.out.2.trans (hb1.mono HB0.out.2.size)))
  clear hb1 HB0 HP k0
  by_cases hx : e0 ≠ 0
  · rw [if_pos hx] at hR
    have hx2 : (e0 != 0) = true := bne_iff_ne.2 hx
    have HR := Lib.hid hR
    clear hR hx
    have z0 : w1.cell? ⟨w.heap.size, 0, none⟩ = some (.int .i64 0) := HB1.out.1.cell_ rfl
    have y0 := HB1.out.1.frozen 0
    have z1 : w1.cell? ⟨w.heap.size, 1, none⟩ = some (.int .i64 0) := HB1.out.1.cell_ rfl
    have y1 := HB1.out.1.frozen 1
    have z2 : w1.cell? ⟨w.heap.size, 2, none⟩ = some (.int .i64 0) := HB1.out.1.cell_ rfl
    have y2 := HB1.out.1.frozen 2
    have z3 : w1.cell? ⟨w.heap.size, 3, none⟩ = some (.string ⟨#[]⟩) := HB1.out.1.cell_ rfl
    have y3 := HB1.out.1.frozen 3
    have z4 : w1.cell? ⟨w.heap.size, 4, none⟩ = some (.string ⟨#[]⟩) := HB1.out.1.cell_ rfl
    have y4 := HB1.out.1.frozen 4
    have z5 : w1.cell? ⟨w.heap.size, 5, none⟩ = some (.bool false) := HB1.out.1.cell_ rfl
    have y5 := HB1.out.1.frozen 5
    have z6 : w1.cell? ⟨w.heap.size, 6, none⟩ = some (.int .i64 0) := HB1.out.1.cell_ rfl
    have y6 := HB1.out.1.frozen 6
    have z7 : w1.cell? ⟨w.heap.size, 7, none⟩ = some (.int .i64 0) := HB1.out.1.cell_ rfl
    have y7 := HB1.out.1.frozen 7
    have z8 : w1.cell? ⟨w.heap.size, 8, none⟩ = some (.int .i64 0) := HB1.out.1.cell_ rfl
    have y8 := HB1.out.1.frozen 8
    have z9 : w1.cell? ⟨w.heap.size, 9, none⟩ = some (.int .i64 0) := HB1.out.1.cell_ rfl
    have y9 := HB1.out.1.frozen 9
    have z10 : w1.cell? ⟨w.heap.size, 10, none⟩ = some (.int .i64 0) := HB1.out.1.cell_ rfl
    have y10 := HB1.out.1.frozen 10
    have z11 : w1.cell? ⟨w.heap.size, 11, none⟩ = some (.int .i64 0) := HB1.out.1.cell_ rfl
    have y11 := HB1.out.1.frozen 11
    have z12 : w1.cell? ⟨w.heap.size, 12, none⟩ = some (.int .i64 0) := HB1.out.1.cell_ rfl
    have y12 := HB1.out.1.frozen 12
    have zlt := HB1.out.1.lt
    go_wp2_with fail
    exact bodyPost_ret (results_cell_tmp rfl _ _ w.heap.size 31 #[.int .i64 0, .int .i64 0, .int .i64 0, .string ⟨#[]⟩, .string ⟨#[]⟩, .bool false, .int .i64 0, .int .i64 0, .int .i64 0, .int .i64 0, .int .i64 0, .int .i64 0, .int .i64 0] _ _ rfl rfl ((HB1.out.1).setAll #[.int .i64 0, .int .i64 0, .int .i64 0, .string ⟨#[]⟩, .string ⟨#[]⟩, .bool false, .int .i64 0, .int .i64 0, .int .i64 0, .int .i64 0, .int .i64 0, .int .i64 0, .int .i64 0] rfl) Tryz.underlying31 rfl infoEra) rfl ⟨by rw [← HR.out]; rfl, below_sets (Nat.le_refl _) (#[.int .i64 0, .int .i64 0, .int .i64 0, .string ⟨#[]⟩, .string ⟨#[]⟩, .bool false, .int .i64 0, .int .i64 0, .int .i64 0, .int .i64 0, .int .i64 0, .int .i64 0, .int .i64 0] : Array Value).toList 0 _ HB1.out.2⟩
  rw [if_neg hx] at hR
  obtain rfl : e0 = 0 := by simpa using hx
  clear hx
  obtain ⟨-, k1, -⟩ := HRow.out _ HB1.out.2
  go_wp2_with fail
  refine (HRu.out _ _).mono ?_
  rintro e w2 ⟨⟨C, rfl, hC1, hC2, hC3⟩, hb2⟩
  have HB2 := Lib.hid (And.intro (HB1.out.1.below hb2 HB1.out.1.lt) (HB1.out.2.trans (hb2.mono HB1.out.2.size)))
  clear hb2 HB1 HRu k1
  by_cases hx : (rulesR s1.data.toList).2 ≠ 0
  · rw [if_pos hx] at hR
    have hx2 : ((rulesR s1.data.toList).2 != 0) = true := bne_iff_ne.2 hx
    have HR := Lib.hid hR
    have HC := Lib.hid (show (Tryz.prog.info? 31).map (·.size) = some C.size ∧ C.all (·.oneCell') = true ∧ C.size = 13 from ⟨by rw [hC1]; exact infoEra, hC2, hC1⟩)
    clear hR hx hC1 hC2 hC3
    generalize (rulesR s1.data.toList).2 = e1 at *
    have HN := Lib.hid (Blk.new' w2 31 #[.int .i64 0, .int .i64 0, .int .i64 0, .string ⟨#[]⟩, .string ⟨#[]⟩, .bool false, .int .i64 0, .int .i64 0, .int .i64 0, .int .i64 0, .int .i64 0, .int .i64 0, .int .i64 0] rfl)
    go_upto_region 7 with (refine wpList_store_mid rfl 31 (.tmp 6) (.tmp 35) rfl w2.heap.size 0 C rfl rfl (HN.out.there (by rw [HC.out.2.2]; decide)) HC.out.1 HC.out.2.1 ?_)
    have HB3 := Lib.hid (show Blk ((w2.alloc (.cells #[.int .i64 0, .int .i64 0, .int .i64 0, .string ⟨#[]⟩, .string ⟨#[]⟩, .bool false, .int .i64 0, .int .i64 0, .int .i64 0, .int .i64 0, .int .i64 0, .int .i64 0, .int .i64 0] 31)).setCells w2.heap.size 0 C.toList) w.heap.size 31 #[.int .i64 0, .int .i64 0, .int .i64 0, .string ⟨#[]⟩, .string ⟨#[]⟩, .bool false, .int .i64 0, .int .i64 0, .int .i64 0, .int .i64 0, .int .i64 0, .int .i64 0, .int .i64 0] ∧ Below w.heap.size w ((w2.alloc (.cells #[.int .i64 0, .int .i64 0, .int .i64 0, .string ⟨#[]⟩, .string ⟨#[]⟩, .bool false, .int .i64 0, .int .i64 0, .int .i64 0, .int .i64 0, .int .i64 0, .int .i64 0, .int .i64 0] 31)).setCells w2.heap.size 0 C.toList) from ⟨Blk.farSets (HB2.out.1.alloc _) (by have := HB2.out.1.lt; omega) _ _, below_sets (HB2.out.2.size) _ _ _ (rbelow_alloc HB2.out.2 _)⟩)
    generalize (w2.alloc (.cells #[.int .i64 0, .int .i64 0, .int .i64 0, .string ⟨#[]⟩, .string ⟨#[]⟩, .bool false, .int .i64 0, .int .i64 0, .int .i64 0, .int .i64 0, .int .i64 0, .int .i64 0, .int .i64 0] 31)).setCells w2.heap.size 0 C.toList = w3 at *
    clear HN HB2
    have z0 : w3.cell? ⟨w.heap.size, 0, none⟩ = some (.int .i64 0) := HB3.out.1.cell_ rfl
    have y0 := HB3.out.1.frozen 0
    have z1 : w3.cell? ⟨w.heap.size, 1, none⟩ = some (.int .i64 0) := HB3.out.1.cell_ rfl
    have y1 := HB3.out.1.frozen 1
    have z2 : w3.cell? ⟨w.heap.size, 2, none⟩ = some (.int .i64 0) := HB3.out.1.cell_ rfl
    have y2 := HB3.out.1.frozen 2
    have z3 : w3.cell? ⟨w.heap.size, 3, none⟩ = some (.string ⟨#[]⟩) := HB3.out.1.cell_ rfl
    have y3 := HB3.out.1.frozen 3
    have z4 : w3.cell? ⟨w.heap.size, 4, none⟩ = some (.string ⟨#[]⟩) := HB3.out.1.cell_ rfl
    have y4 := HB3.out.1.frozen 4
    have z5 : w3.cell? ⟨w.heap.size, 5, none⟩ = some (.bool false) := HB3.out.1.cell_ rfl
    have y5 := HB3.out.1.frozen 5
    have z6 : w3.cell? ⟨w.heap.size, 6, none⟩ = some (.int .i64 0) := HB3.out.1.cell_ rfl
    have y6 := HB3.out.1.frozen 6
    have z7 : w3.cell? ⟨w.heap.size, 7, none⟩ = some (.int .i64 0) := HB3.out.1.cell_ rfl
    have y7 := HB3.out.1.frozen 7
    have z8 : w3.cell? ⟨w.heap.size, 8, none⟩ = some (.int .i64 0) := HB3.out.1.cell_ rfl
    have y8 := HB3.out.1.frozen 8
    have z9 : w3.cell? ⟨w.heap.size, 9, none⟩ = some (.int .i64 0) := HB3.out.1.cell_ rfl
    have y9 := HB3.out.1.frozen 9
    have z10 : w3.cell? ⟨w.heap.size, 10, none⟩ = some (.int .i64 0) := HB3.out.1.cell_ rfl
    have y10 := HB3.out.1.frozen 10
    have z11 : w3.cell? ⟨w.heap.size, 11, none⟩ = some (.int .i64 0) := HB3.out.1.cell_ rfl
    have y11 := HB3.out.1.frozen 11
    have z12 : w3.cell? ⟨w.heap.size, 12, none⟩ = some (.int .i64 0) := HB3.out.1.cell_ rfl
    have y12 := HB3.out.1.frozen 12
    have zlt := HB3.out.1.lt
    go_wp2_with fail
    exact bodyPost_ret (results_cell_tmp rfl _ _ w.heap.size 31 #[.int .i64 0, .int .i64 0, .int .i64 0, .string ⟨#[]⟩, .string ⟨#[]⟩, .bool false, .int .i64 0, .int .i64 0, .int .i64 0, .int .i64 0, .int .i64 0, .int .i64 0, .int .i64 0] _ _ rfl rfl ((HB3.out.1).setAll #[.int .i64 0, .int .i64 0, .int .i64 0, .string ⟨#[]⟩, .string ⟨#[]⟩, .bool false, .int .i64 0, .int .i64 0, .int .i64 0, .int .i64 0, .int .i64 0, .int .i64 0, .int .i64 0] rfl) Tryz.underlying31 rfl infoEra) rfl ⟨by rw [← HR.out]; rfl, below_sets (Nat.le_refl _) (#[.int .i64 0, .int .i64 0, .int .i64 0, .string ⟨#[]⟩, .string ⟨#[]⟩, .bool false, .int .i64 0, .int .i64 0, .int .i64 0, .int .i64 0, .int .i64 0, .int .i64 0, .int .i64 0] : Array Value).toList 0 _ HB3.out.2⟩
  rw [if_neg hx] at hR
  have hr1 : (rulesR s1.data.toList).2 = 0 := by simpa using hx
  obtain rfl := hC3 hr1
  clear hC1 hC2 hC3 hx
  generalize rulesR s1.data.toList = RR at *
  obtain ⟨⟨kd, sv, sl⟩, r1⟩ := RR
  obtain rfl : r1 = 0 := hr1
  obtain ⟨sn, rfl⟩ : ∃ sn : ByteArray, sl = sn.data.toList := ⟨⟨sl.toArray⟩, by simp⟩
  simp only [ba_list]
  go_upto_region 7 with fail
  have HB3 := Lib.hid (show Blk (w2.alloc (.cells #[.int .i64 x, .int .i64 kd, .int .i64 sv, .string sn, .string ⟨#[]⟩, .bool false, .int .i64 0, .int .i64 0, .int .i64 0, .int .i64 0, .int .i64 0, .int .i64 0, .int .i64 0] 31)) w.heap.size 31 #[.int .i64 0, .int .i64 0, .int .i64 0, .string ⟨#[]⟩, .string ⟨#[]⟩, .bool false, .int .i64 0, .int .i64 0, .int .i64 0, .int .i64 0, .int .i64 0, .int .i64 0, .int .i64 0] ∧ Blk (w2.alloc (.cells #[.int .i64 x, .int .i64 kd, .int .i64 sv, .string sn, .string ⟨#[]⟩, .bool false, .int .i64 0, .int .i64 0, .int .i64 0, .int .i64 0, .int .i64 0, .int .i64 0, .int .i64 0] 31)) w2.heap.size 31 #[.int .i64 x, .int .i64 kd, .int .i64 sv, .string sn, .string ⟨#[]⟩, .bool false, .int .i64 0, .int .i64 0, .int .i64 0, .int .i64 0, .int .i64 0, .int .i64 0, .int .i64 0] ∧ Below w.heap.size w (w2.alloc (.cells #[.int .i64 x, .int .i64 kd, .int .i64 sv, .string sn, .string ⟨#[]⟩, .bool false, .int .i64 0, .int .i64 0, .int .i64 0, .int .i64 0, .int .i64 0, .int .i64 0, .int .i64 0] 31)) ∧ w.heap.size < w2.heap.size from ⟨HB2.out.1.alloc _, Blk.new' _ _ _ rfl, rbelow_alloc HB2.out.2 _, HB2.out.1.lt⟩)
  generalize w2.alloc (.cells #[.int .i64 x, .int .i64 kd, .int .i64 sv, .string sn, .string ⟨#[]⟩, .bool false, .int .i64 0, .int .i64 0, .int .i64 0, .int .i64 0, .int .i64 0, .int .i64 0, .int .i64 0] 31) = w3 at *
  clear HB2
  generalize w2.heap.size = g at *
  obtain ⟨-, -, k2⟩ := HRow.out _ HB3.out.2.2.1
  go_wp2_with fail
  refine (HF.out _).mono ?_
  rintro e w4 ⟨rfl, rfl⟩
  cases hf : fmtB s2.data.toList
  · rw [if_pos hf] at hR
    have HR := Lib.hid hR
    clear hR hf
    have z0 : w3.cell? ⟨w.heap.size, 0, none⟩ = some (.int .i64 0) := HB3.out.1.cell_ rfl
    have y0 := HB3.out.1.frozen 0
    have z1 : w3.cell? ⟨w.heap.size, 1, none⟩ = some (.int .i64 0) := HB3.out.1.cell_ rfl
    have y1 := HB3.out.1.frozen 1
    have z2 : w3.cell? ⟨w.heap.size, 2, none⟩ = some (.int .i64 0) := HB3.out.1.cell_ rfl
    have y2 := HB3.out.1.frozen 2
    have z3 : w3.cell? ⟨w.heap.size, 3, none⟩ = some (.string ⟨#[]⟩) := HB3.out.1.cell_ rfl
    have y3 := HB3.out.1.frozen 3
    have z4 : w3.cell? ⟨w.heap.size, 4, none⟩ = some (.string ⟨#[]⟩) := HB3.out.1.cell_ rfl
    have y4 := HB3.out.1.frozen 4
    have z5 : w3.cell? ⟨w.heap.size, 5, none⟩ = some (.bool false) := HB3.out.1.cell_ rfl
    have y5 := HB3.out.1.frozen 5
    have z6 : w3.cell? ⟨w.heap.size, 6, none⟩ = some (.int .i64 0) := HB3.out.1.cell_ rfl
    have y6 := HB3.out.1.frozen 6
    have z7 : w3.cell? ⟨w.heap.size, 7, none⟩ = some (.int .i64 0) := HB3.out.1.cell_ rfl
    have y7 := HB3.out.1.frozen 7
    have z8 : w3.cell? ⟨w.heap.size, 8, none⟩ = some (.int .i64 0) := HB3.out.1.cell_ rfl
    have y8 := HB3.out.1.frozen 8
    have z9 : w3.cell? ⟨w.heap.size, 9, none⟩ = some (.int .i64 0) := HB3.out.1.cell_ rfl
    have y9 := HB3.out.1.frozen 9
    have z10 : w3.cell? ⟨w.heap.size, 10, none⟩ = some (.int .i64 0) := HB3.out.1.cell_ rfl
    have y10 := HB3.out.1.frozen 10
    have z11 : w3.cell? ⟨w.heap.size, 11, none⟩ = some (.int .i64 0) := HB3.out.1.cell_ rfl
    have y11 := HB3.out.1.frozen 11
    have z12 : w3.cell? ⟨w.heap.size, 12, none⟩ = some (.int .i64 0) := HB3.out.1.cell_ rfl
    have y12 := HB3.out.1.frozen 12
    have zlt := HB3.out.1.lt
    go_wp2_with fail
    exact bodyPost_ret (results_cell_tmp rfl _ _ w.heap.size 31 #[.int .i64 0, .int .i64 0, .int .i64 0, .string ⟨#[]⟩, .string ⟨#[]⟩, .bool false, .int .i64 0, .int .i64 0, .int .i64 0, .int .i64 0, .int .i64 0, .int .i64 0, .int .i64 0] _ _ rfl rfl ((HB3.out.1).setAll #[.int .i64 0, .int .i64 0, .int .i64 0, .string ⟨#[]⟩, .string ⟨#[]⟩, .bool false, .int .i64 0, .int .i64 0, .int .i64 0, .int .i64 0, .int .i64 0, .int .i64 0, .int .i64 0] rfl) Tryz.underlying31 rfl infoEra) rfl ⟨by rw [← HR.out]; rfl, below_sets (Nat.le_refl _) (#[.int .i64 0, .int .i64 0, .int .i64 0, .string ⟨#[]⟩, .string ⟨#[]⟩, .bool false, .int .i64 0, .int .i64 0, .int .i64 0, .int .i64 0, .int .i64 0, .int .i64 0, .int .i64 0] : Array Value).toList 0 _ HB3.out.2.2.1⟩
  rw [if_neg (by rw [hf]; decide)] at hR
  clear hf
  have q4 : w3.cell? ⟨g, 4, none⟩ = some (.string ⟨#[]⟩) := HB3.out.2.1.cell_ rfl
  have f4 := HB3.out.2.1.frozen 4
  have hlt := HB3.out.2.1.lt
  obtain ⟨w5, hw5⟩ : ∃ W, w3.setCell ⟨g, 4, none⟩ (.string s2) = W := ⟨_, rfl⟩
  have HB5 := Lib.hid (show Blk w5 w.heap.size 31 #[.int .i64 0, .int .i64 0, .int .i64 0, .string ⟨#[]⟩, .string ⟨#[]⟩, .bool false, .int .i64 0, .int .i64 0, .int .i64 0, .int .i64 0, .int .i64 0, .int .i64 0, .int .i64 0] ∧ Blk w5 g 31 #[.int .i64 x, .int .i64 kd, .int .i64 sv, .string sn, .string s2, .bool false, .int .i64 0, .int .i64 0, .int .i64 0, .int .i64 0, .int .i64 0, .int .i64 0, .int .i64 0] ∧ Below w.heap.size w w5 ∧ w.heap.size < g from hw5 ▸ ⟨HB3.out.1.far (show w.heap.size ≠ g by have := HB3.out.2.2.2; omega) _, HB3.out.2.1.set_ 4 _, HB3.out.2.2.1.setCell (show w.heap.size ≤ g by have := HB3.out.2.2.2; omega) _, HB3.out.2.2.2⟩)
  go_upto_region 14 with fail
  try simp only [hw5]
  clear hw5 HB3 q4 f4 hlt k2
  rw [if_neg (by simp)] at hR
  go_wp2_with fail
  refine (HE.out _ _ HB5.out.2.2.1).mono ?_
  rintro e w6 ⟨⟨C, rfl, hC1, hC2, hC3⟩, hb⟩
  have HB6 := Lib.hid (show Blk w6 w.heap.size 31 #[.int .i64 0, .int .i64 0, .int .i64 0, .string ⟨#[]⟩, .string ⟨#[]⟩, .bool false, .int .i64 0, .int .i64 0, .int .i64 0, .int .i64 0, .int .i64 0, .int .i64 0, .int .i64 0] ∧ Blk w6 g 31 #[.int .i64 x, .int .i64 kd, .int .i64 sv, .string sn, .string s2, .bool false, .int .i64 0, .int .i64 0, .int .i64 0, .int .i64 0, .int .i64 0, .int .i64 0, .int .i64 0] ∧ Below w.heap.size w w6 ∧ w.heap.size < g from ⟨HB5.out.1.below hb HB5.out.1.lt, HB5.out.2.1.below hb HB5.out.2.1.lt, HB5.out.2.2.1.trans (hb.mono HB5.out.2.2.1.size), HB5.out.2.2.2⟩)
  clear hb HB5 HE
  generalize endR_ [s3.data.toList, s4.data.toList] = EE at *
  obtain ⟨⟨is, yr, mo, ⟨d1, d2, d3⟩, ⟨h1, h2⟩⟩, e3⟩ := EE
  by_cases hx : e3 ≠ 0
  · rw [if_pos hx] at hR
    have hx2 : (e3 != 0) = true := bne_iff_ne.2 hx
    have HR := Lib.hid hR
    have HC := Lib.hid (show (Tryz.prog.info? 29).map (·.size) = some C.size ∧ C.all (·.oneCell') = true ∧ C.size = 8 from ⟨by rw [hC1]; exact infoU, hC2, hC1⟩)
    clear hR hx hC1 hC2 hC3
    have HN := Lib.hid (Blk.new' w6 29 #[.bool false, .int .i64 0, .int .i64 0, .int .i64 0, .int .i64 0, .int .i64 0, .int .i64 0, .int .i64 0] rfl)
    go_upto_region 15 with (refine wpList_store_mid rfl 29 (.tmp 7) (.tmp 59) rfl w6.heap.size 0 C rfl rfl (HN.out.there (by rw [HC.out.2.2]; decide)) HC.out.1 HC.out.2.1 ?_)
    have HB7 := Lib.hid (show Blk ((w6.alloc (.cells #[.bool false, .int .i64 0, .int .i64 0, .int .i64 0, .int .i64 0, .int .i64 0, .int .i64 0, .int .i64 0] 29)).setCells w6.heap.size 0 C.toList) w.heap.size 31 #[.int .i64 0, .int .i64 0, .int .i64 0, .string ⟨#[]⟩, .string ⟨#[]⟩, .bool false, .int .i64 0, .int .i64 0, .int .i64 0, .int .i64 0, .int .i64 0, .int .i64 0, .int .i64 0] ∧ Below w.heap.size w ((w6.alloc (.cells #[.bool false, .int .i64 0, .int .i64 0, .int .i64 0, .int .i64 0, .int .i64 0, .int .i64 0, .int .i64 0] 29)).setCells w6.heap.size 0 C.toList) from ⟨Blk.farSets (HB6.out.1.alloc _) (by have := HB6.out.1.lt; omega) _ _, below_sets (HB6.out.2.2.1.size) _ _ _ (rbelow_alloc HB6.out.2.2.1 _)⟩)
    generalize (w6.alloc (.cells #[.bool false, .int .i64 0, .int .i64 0, .int .i64 0, .int .i64 0, .int .i64 0, .int .i64 0, .int .i64 0] 29)).setCells w6.heap.size 0 C.toList = w7 at *
    clear HN HB6
    have z0 : w7.cell? ⟨w.heap.size, 0, none⟩ = some (.int .i64 0) := HB7.out.1.cell_ rfl
    have y0 := HB7.out.1.frozen 0
    have z1 : w7.cell? ⟨w.heap.size, 1, none⟩ = some (.int .i64 0) := HB7.out.1.cell_ rfl
    have y1 := HB7.out.1.frozen 1
    have z2 : w7.cell? ⟨w.heap.size, 2, none⟩ = some (.int .i64 0) := HB7.out.1.cell_ rfl
    have y2 := HB7.out.1.frozen 2
    have z3 : w7.cell? ⟨w.heap.size, 3, none⟩ = some (.string ⟨#[]⟩) := HB7.out.1.cell_ rfl
    have y3 := HB7.out.1.frozen 3
    have z4 : w7.cell? ⟨w.heap.size, 4, none⟩ = some (.string ⟨#[]⟩) := HB7.out.1.cell_ rfl
    have y4 := HB7.out.1.frozen 4
    have z5 : w7.cell? ⟨w.heap.size, 5, none⟩ = some (.bool false) := HB7.out.1.cell_ rfl
    have y5 := HB7.out.1.frozen 5
    have z6 : w7.cell? ⟨w.heap.size, 6, none⟩ = some (.int .i64 0) := HB7.out.1.cell_ rfl
    have y6 := HB7.out.1.frozen 6
    have z7 : w7.cell? ⟨w.heap.size, 7, none⟩ = some (.int .i64 0) := HB7.out.1.cell_ rfl
    have y7 := HB7.out.1.frozen 7
    have z8 : w7.cell? ⟨w.heap.size, 8, none⟩ = some (.int .i64 0) := HB7.out.1.cell_ rfl
    have y8 := HB7.out.1.frozen 8
    have z9 : w7.cell? ⟨w.heap.size, 9, none⟩ = some (.int .i64 0) := HB7.out.1.cell_ rfl
    have y9 := HB7.out.1.frozen 9
    have z10 : w7.cell? ⟨w.heap.size, 10, none⟩ = some (.int .i64 0) := HB7.out.1.cell_ rfl
    have y10 := HB7.out.1.frozen 10
    have z11 : w7.cell? ⟨w.heap.size, 11, none⟩ = some (.int .i64 0) := HB7.out.1.cell_ rfl
    have y11 := HB7.out.1.frozen 11
    have z12 : w7.cell? ⟨w.heap.size, 12, none⟩ = some (.int .i64 0) := HB7.out.1.cell_ rfl
    have y12 := HB7.out.1.frozen 12
    have zlt := HB7.out.1.lt
    go_wp2_with fail
    exact bodyPost_ret (results_cell_tmp rfl _ _ w.heap.size 31 #[.int .i64 0, .int .i64 0, .int .i64 0, .string ⟨#[]⟩, .string ⟨#[]⟩, .bool false, .int .i64 0, .int .i64 0, .int .i64 0, .int .i64 0, .int .i64 0, .int .i64 0, .int .i64 0] _ _ rfl rfl ((HB7.out.1).setAll #[.int .i64 0, .int .i64 0, .int .i64 0, .string ⟨#[]⟩, .string ⟨#[]⟩, .bool false, .int .i64 0, .int .i64 0, .int .i64 0, .int .i64 0, .int .i64 0, .int .i64 0, .int .i64 0] rfl) Tryz.underlying31 rfl infoEra) rfl ⟨by rw [← HR.out]; rfl, below_sets (Nat.le_refl _) (#[.int .i64 0, .int .i64 0, .int .i64 0, .string ⟨#[]⟩, .string ⟨#[]⟩, .bool false, .int .i64 0, .int .i64 0, .int .i64 0, .int .i64 0, .int .i64 0, .int .i64 0, .int .i64 0] : Array Value).toList 0 _ HB7.out.2⟩
  rw [if_neg hx] at hR
  obtain rfl : e3 = 0 := by simpa using hx
  obtain rfl := hC3 rfl
  simp only [UntilP.arr]
  clear hC1 hC2 hC3 hx
  have q5 : w6.cell? ⟨g, 5, none⟩ = some (.bool false) := HB6.out.2.1.cell_ rfl
  have f5 := HB6.out.2.1.frozen 5
  have q6 : w6.cell? ⟨g, 6, none⟩ = some (.int .i64 0) := HB6.out.2.1.cell_ rfl
  have f6 := HB6.out.2.1.frozen 6
  have q7 : w6.cell? ⟨g, 7, none⟩ = some (.int .i64 0) := HB6.out.2.1.cell_ rfl
  have f7 := HB6.out.2.1.frozen 7
  have q8 : w6.cell? ⟨g, 8, none⟩ = some (.int .i64 0) := HB6.out.2.1.cell_ rfl
  have f8 := HB6.out.2.1.frozen 8
  have q9 : w6.cell? ⟨g, 9, none⟩ = some (.int .i64 0) := HB6.out.2.1.cell_ rfl
  have f9 := HB6.out.2.1.frozen 9
  have q10 : w6.cell? ⟨g, 10, none⟩ = some (.int .i64 0) := HB6.out.2.1.cell_ rfl
  have f10 := HB6.out.2.1.frozen 10
  have q11 : w6.cell? ⟨g, 11, none⟩ = some (.int .i64 0) := HB6.out.2.1.cell_ rfl
  have f11 := HB6.out.2.1.frozen 11
  have q12 : w6.cell? ⟨g, 12, none⟩ = some (.int .i64 0) := HB6.out.2.1.cell_ rfl
  have f12 := HB6.out.2.1.frozen 12
  have hlt := HB6.out.2.1.lt
  obtain ⟨w7, hw7⟩ : ∃ W, (((((((((w6.setCell ⟨g, 5, none⟩ (.bool is)).setCell ⟨g, 6, none⟩ (.int .i64 yr)).setCell ⟨g, 7, none⟩ (.int .i64 mo)).setCell ⟨g, 8, none⟩ (.int .i64 d1)).setCell ⟨g, 9, none⟩ (.int .i64 d2)).setCell ⟨g, 10, none⟩ (.int .i64 d3)).setCell ⟨g, 11, none⟩ (.int .i64 h1)).setCell ⟨g, 12, none⟩ (.int .i64 h2)).alloc (.cells #[.bool is, .int .i64 yr, .int .i64 mo, .int .i64 d1, .int .i64 d2, .int .i64 d3, .int .i64 h1, .int .i64 h2] 29)) = W := ⟨_, rfl⟩
  have HB7 := Lib.hid (show Blk w7 w.heap.size 31 #[.int .i64 0, .int .i64 0, .int .i64 0, .string ⟨#[]⟩, .string ⟨#[]⟩, .bool false, .int .i64 0, .int .i64 0, .int .i64 0, .int .i64 0, .int .i64 0, .int .i64 0, .int .i64 0] ∧ Blk w7 g 31 #[.int .i64 x, .int .i64 kd, .int .i64 sv, .string sn, .string s2, .bool is, .int .i64 yr, .int .i64 mo, .int .i64 d1, .int .i64 d2, .int .i64 d3, .int .i64 h1, .int .i64 h2] ∧ Below w.heap.size w w7 ∧ w.heap.size < g from by
    rw [← hw7]
    exact ⟨(Blk.farSets HB6.out.1 (show w.heap.size ≠ g by have := HB6.out.2.2.2; omega) [.bool is, .int .i64 yr, .int .i64 mo, .int .i64 d1, .int .i64 d2, .int .i64 d3, .int .i64 h1, .int .i64 h2] 5).alloc _, (Blk.setMid [.int .i64 x, .int .i64 kd, .int .i64 sv, .string sn, .string s2] [.bool false, .int .i64 0, .int .i64 0, .int .i64 0, .int .i64 0, .int .i64 0, .int .i64 0, .int .i64 0] [.bool is, .int .i64 yr, .int .i64 mo, .int .i64 d1, .int .i64 d2, .int .i64 d3, .int .i64 h1, .int .i64 h2] [] HB6.out.2.1 rfl).alloc _, rbelow_alloc (below_sets (show w.heap.size ≤ g by have := HB6.out.2.2.2; omega) [.bool is, .int .i64 yr, .int .i64 mo, .int .i64 d1, .int .i64 d2, .int .i64 d3, .int .i64 h1, .int .i64 h2] 5 _ HB6.out.2.2.1) _, HB6.out.2.2.2⟩)
  go_upto_region 18 with fail
  try simp only [hw7]
  clear hw7 HB6 q5 f5 q6 f6 q7 f7 q8 f8 q9 f9 q10 f10 q11 f11 q12 f12 hlt
  have HR := Lib.hid hR
  clear hR
  obtain ⟨C, hCC⟩ : ∃ C : Array Value, #[.int .i64 x, .int .i64 kd, .int .i64 sv, .string sn, .string s2, .bool is, .int .i64 yr, .int .i64 mo, .int .i64 d1, .int .i64 d2, .int .i64 d3, .int .i64 h1, .int .i64 h2] = C := ⟨_, rfl⟩
  have Hi := Lib.hid (show (Tryz.prog.info? 31).map (·.size) = some C.size ∧ C.all (·.oneCell') = true ∧ C.size = 13 from hCC ▸ ⟨infoEra, by simp [Value.oneCell'], rfl⟩)
  rw [hCC] at HB7
  have HCC := Lib.hid hCC
  clear hCC
  go_wp2_with (first
    | (refine wpList_load_row rfl 31 (.tmp 6) rfl g rfl 31 C (0, 0) _ HB7.out.2.1 Tryz.underlying31 rfl Hi.out.1 ?_)
    | (refine wpList_store_mid rfl 31 (.tmp 2) (.tmp 67) rfl (w.heap.size) 0 C rfl rfl (HB7.out.1.there (by rw [Hi.out.2.2]; decide)) Hi.out.1 Hi.out.2.1 ?_))
  refine bodyPost_ret (results_cell_tmp rfl _ _ (w.heap.size) 31 C _ _ rfl rfl (HB7.out.1.setAll C Hi.out.2.2) Tryz.underlying31 rfl Hi.out.1) rfl ⟨by rw [← HCC.out, ← HR.out]; simp [EraP.cells, UntilP.none], below_sets (Nat.le_refl _) _ _ _ HB7.out.2.2.1⟩

set_option maxRecDepth 100000 in
set_option maxHeartbeats 2000000 in
theorem r11parse6 (b o c : Nat) (s0 s1 s2 s3 s4 s5 : ByteArray) (w : World) (hb : b < w.heap.size) (hc : 6 ≤ c) (hs0 : s0.size ≤ 1048576) (hs1 : s1.size ≤ 1048576) (hs2 : s2.size ≤ 1048576) (hs3 : s3.size ≤ 1048576) (hs4 : s4.size ≤ 1048576) (hs5 : s5.size ≤ 1048576)
    (hat : StrRow w b o [s0.data.toList, s1.data.toList, s2.data.toList, s3.data.toList, s4.data.toList, s5.data.toList]) :
    Calls Tryz.prog 12 #[.slice (some ⟨b, o, none⟩) 6 c] w fun e w' => e = .returned (.tuple #[.agg (eraR [s0.data.toList, s1.data.toList, s2.data.toList, s3.data.toList, s4.data.toList, s5.data.toList]).1.cells, .int .i64 (eraR [s0.data.toList, s1.data.toList, s2.data.toList, s3.data.toList, s4.data.toList, s5.data.toList]).2]) ∧ Below w.heap.size w w' := by
  obtain ⟨R, hR⟩ : ∃ R, eraR [s0.data.toList, s1.data.toList, s2.data.toList, s3.data.toList, s4.data.toList, s5.data.toList] = R := ⟨_, rfl⟩
  rw [hR]
  have HRow := Lib.hid (show ∀ W, Below w.heap.size w W → W.cell? ⟨b, o, none⟩ = some (.string s0) ∧ W.cell? ⟨b, o + 1, none⟩ = some (.string s1) ∧ W.cell? ⟨b, o + 2, none⟩ = some (.string s2) from fun W hW => ⟨by have := (hat.below hW).at_ 0 _ rfl; rwa [ba_list] at this, by have := (hat.below hW).at_ 1 _ rfl; rwa [ba_list] at this, by have := (hat.below hW).at_ 2 _ rfl; rwa [ba_list] at this⟩)
  unfold eraR at hR
  rw [if_neg (by simp)] at hR
  simp only [List.getD_cons_zero, List.getD_cons_succ] at hR
  have HP := Lib.hid (fun W => r4parse_any s0 W hs0)
  have HRu := Lib.hid (fun W off => r11rules_any s1 off W hs1)
  have HF := Lib.hid (fun W => calls_flip (r11written_any s2 W hs2))
  have HE := Lib.hid (show ∀ W c, Below w.heap.size w W → Calls Tryz.prog 25 #[.slice (some ⟨b, o + 3, none⟩) 3 c] W fun e w' => EndC [s3.data.toList, s4.data.toList, s5.data.toList] e ∧ Below W.heap.size W w' from fun W c hW => r11end_any b (o + 3) 3 c [s3.data.toList, s4.data.toList, s5.data.toList] W (hat.below hW).tail.tail.tail rfl (by decide) (by decide) (by intro l hl; simp only [List.mem_cons, List.not_mem_nil, or_false] at hl; rcases hl with rfl | rfl | rfl <;> simpa))
  have hE : List.drop 3 [s0.data.toList, s1.data.toList, s2.data.toList, s3.data.toList, s4.data.toList, s5.data.toList] = [s3.data.toList, s4.data.toList, s5.data.toList] := rfl
  rw [hE] at hR
  clear hE
  have hcc : ¬ c = 3 := by omega
  have hcc2 : (3 : Int) ≤ (c : Int) := by omega
  clear hat
  have HB0 := Lib.hid (And.intro (Blk.new' w 31 #[.int .i64 0, .int .i64 0, .int .i64 0, .string ⟨#[]⟩, .string ⟨#[]⟩, .bool false, .int .i64 0, .int .i64 0, .int .i64 0, .int .i64 0, .int .i64 0, .int .i64 0, .int .i64 0] rfl) ((Below.refl w.heap.size w).alloc (Nat.le_refl _) (.cells #[.int .i64 0, .int .i64 0, .int .i64 0, .string ⟨#[]⟩, .string ⟨#[]⟩, .bool false, .int .i64 0, .int .i64 0, .int .i64 0, .int .i64 0, .int .i64 0, .int .i64 0, .int .i64 0] 31)))
  generalize offParseR s0.data.toList = p0 at *
  obtain ⟨x, e0⟩ := p0
  obtain ⟨k0, -⟩ := HRow.out _ HB0.out.2
  go_enter Tryz.func12, Tryz.ntmps12
  go_wp2_with fail
  refine (HP.out _).mono ?_
  rintro e w1 ⟨rfl, hb1⟩
  have HB1 := Lib.hid (And.intro (HB0.out.1.below hb1 HB0.out.1.lt) (HB0.out.2.trans (hb1.mono HB0.out.2.size)))
  clear hb1 HB0 HP k0
  by_cases hx : e0 ≠ 0
  · rw [if_pos hx] at hR
    have hx2 : (e0 != 0) = true := bne_iff_ne.2 hx
    have HR := Lib.hid hR
    clear hR hx
    have z0 : w1.cell? ⟨w.heap.size, 0, none⟩ = some (.int .i64 0) := HB1.out.1.cell_ rfl
    have y0 := HB1.out.1.frozen 0
    have z1 : w1.cell? ⟨w.heap.size, 1, none⟩ = some (.int .i64 0) := HB1.out.1.cell_ rfl
    have y1 := HB1.out.1.frozen 1
    have z2 : w1.cell? ⟨w.heap.size, 2, none⟩ = some (.int .i64 0) := HB1.out.1.cell_ rfl
    have y2 := HB1.out.1.frozen 2
    have z3 : w1.cell? ⟨w.heap.size, 3, none⟩ = some (.string ⟨#[]⟩) := HB1.out.1.cell_ rfl
    have y3 := HB1.out.1.frozen 3
    have z4 : w1.cell? ⟨w.heap.size, 4, none⟩ = some (.string ⟨#[]⟩) := HB1.out.1.cell_ rfl
    have y4 := HB1.out.1.frozen 4
    have z5 : w1.cell? ⟨w.heap.size, 5, none⟩ = some (.bool false) := HB1.out.1.cell_ rfl
    have y5 := HB1.out.1.frozen 5
    have z6 : w1.cell? ⟨w.heap.size, 6, none⟩ = some (.int .i64 0) := HB1.out.1.cell_ rfl
    have y6 := HB1.out.1.frozen 6
    have z7 : w1.cell? ⟨w.heap.size, 7, none⟩ = some (.int .i64 0) := HB1.out.1.cell_ rfl
    have y7 := HB1.out.1.frozen 7
    have z8 : w1.cell? ⟨w.heap.size, 8, none⟩ = some (.int .i64 0) := HB1.out.1.cell_ rfl
    have y8 := HB1.out.1.frozen 8
    have z9 : w1.cell? ⟨w.heap.size, 9, none⟩ = some (.int .i64 0) := HB1.out.1.cell_ rfl
    have y9 := HB1.out.1.frozen 9
    have z10 : w1.cell? ⟨w.heap.size, 10, none⟩ = some (.int .i64 0) := HB1.out.1.cell_ rfl
    have y10 := HB1.out.1.frozen 10
    have z11 : w1.cell? ⟨w.heap.size, 11, none⟩ = some (.int .i64 0) := HB1.out.1.cell_ rfl
    have y11 := HB1.out.1.frozen 11
    have z12 : w1.cell? ⟨w.heap.size, 12, none⟩ = some (.int .i64 0) := HB1.out.1.cell_ rfl
    have y12 := HB1.out.1.frozen 12
    have zlt := HB1.out.1.lt
    go_wp2_with fail
    exact bodyPost_ret (results_cell_tmp rfl _ _ w.heap.size 31 #[.int .i64 0, .int .i64 0, .int .i64 0, .string ⟨#[]⟩, .string ⟨#[]⟩, .bool false, .int .i64 0, .int .i64 0, .int .i64 0, .int .i64 0, .int .i64 0, .int .i64 0, .int .i64 0] _ _ rfl rfl ((HB1.out.1).setAll #[.int .i64 0, .int .i64 0, .int .i64 0, .string ⟨#[]⟩, .string ⟨#[]⟩, .bool false, .int .i64 0, .int .i64 0, .int .i64 0, .int .i64 0, .int .i64 0, .int .i64 0, .int .i64 0] rfl) Tryz.underlying31 rfl infoEra) rfl ⟨by rw [← HR.out]; rfl, below_sets (Nat.le_refl _) (#[.int .i64 0, .int .i64 0, .int .i64 0, .string ⟨#[]⟩, .string ⟨#[]⟩, .bool false, .int .i64 0, .int .i64 0, .int .i64 0, .int .i64 0, .int .i64 0, .int .i64 0, .int .i64 0] : Array Value).toList 0 _ HB1.out.2⟩
  rw [if_neg hx] at hR
  obtain rfl : e0 = 0 := by simpa using hx
  clear hx
  obtain ⟨-, k1, -⟩ := HRow.out _ HB1.out.2
  go_wp2_with fail
  refine (HRu.out _ _).mono ?_
  rintro e w2 ⟨⟨C, rfl, hC1, hC2, hC3⟩, hb2⟩
  have HB2 := Lib.hid (And.intro (HB1.out.1.below hb2 HB1.out.1.lt) (HB1.out.2.trans (hb2.mono HB1.out.2.size)))
  clear hb2 HB1 HRu k1
  by_cases hx : (rulesR s1.data.toList).2 ≠ 0
  · rw [if_pos hx] at hR
    have hx2 : ((rulesR s1.data.toList).2 != 0) = true := bne_iff_ne.2 hx
    have HR := Lib.hid hR
    have HC := Lib.hid (show (Tryz.prog.info? 31).map (·.size) = some C.size ∧ C.all (·.oneCell') = true ∧ C.size = 13 from ⟨by rw [hC1]; exact infoEra, hC2, hC1⟩)
    clear hR hx hC1 hC2 hC3
    generalize (rulesR s1.data.toList).2 = e1 at *
    have HN := Lib.hid (Blk.new' w2 31 #[.int .i64 0, .int .i64 0, .int .i64 0, .string ⟨#[]⟩, .string ⟨#[]⟩, .bool false, .int .i64 0, .int .i64 0, .int .i64 0, .int .i64 0, .int .i64 0, .int .i64 0, .int .i64 0] rfl)
    go_upto_region 7 with (refine wpList_store_mid rfl 31 (.tmp 6) (.tmp 35) rfl w2.heap.size 0 C rfl rfl (HN.out.there (by rw [HC.out.2.2]; decide)) HC.out.1 HC.out.2.1 ?_)
    have HB3 := Lib.hid (show Blk ((w2.alloc (.cells #[.int .i64 0, .int .i64 0, .int .i64 0, .string ⟨#[]⟩, .string ⟨#[]⟩, .bool false, .int .i64 0, .int .i64 0, .int .i64 0, .int .i64 0, .int .i64 0, .int .i64 0, .int .i64 0] 31)).setCells w2.heap.size 0 C.toList) w.heap.size 31 #[.int .i64 0, .int .i64 0, .int .i64 0, .string ⟨#[]⟩, .string ⟨#[]⟩, .bool false, .int .i64 0, .int .i64 0, .int .i64 0, .int .i64 0, .int .i64 0, .int .i64 0, .int .i64 0] ∧ Below w.heap.size w ((w2.alloc (.cells #[.int .i64 0, .int .i64 0, .int .i64 0, .string ⟨#[]⟩, .string ⟨#[]⟩, .bool false, .int .i64 0, .int .i64 0, .int .i64 0, .int .i64 0, .int .i64 0, .int .i64 0, .int .i64 0] 31)).setCells w2.heap.size 0 C.toList) from ⟨Blk.farSets (HB2.out.1.alloc _) (by have := HB2.out.1.lt; omega) _ _, below_sets (HB2.out.2.size) _ _ _ (rbelow_alloc HB2.out.2 _)⟩)
    generalize (w2.alloc (.cells #[.int .i64 0, .int .i64 0, .int .i64 0, .string ⟨#[]⟩, .string ⟨#[]⟩, .bool false, .int .i64 0, .int .i64 0, .int .i64 0, .int .i64 0, .int .i64 0, .int .i64 0, .int .i64 0] 31)).setCells w2.heap.size 0 C.toList = w3 at *
    clear HN HB2
    have z0 : w3.cell? ⟨w.heap.size, 0, none⟩ = some (.int .i64 0) := HB3.out.1.cell_ rfl
    have y0 := HB3.out.1.frozen 0
    have z1 : w3.cell? ⟨w.heap.size, 1, none⟩ = some (.int .i64 0) := HB3.out.1.cell_ rfl
    have y1 := HB3.out.1.frozen 1
    have z2 : w3.cell? ⟨w.heap.size, 2, none⟩ = some (.int .i64 0) := HB3.out.1.cell_ rfl
    have y2 := HB3.out.1.frozen 2
    have z3 : w3.cell? ⟨w.heap.size, 3, none⟩ = some (.string ⟨#[]⟩) := HB3.out.1.cell_ rfl
    have y3 := HB3.out.1.frozen 3
    have z4 : w3.cell? ⟨w.heap.size, 4, none⟩ = some (.string ⟨#[]⟩) := HB3.out.1.cell_ rfl
    have y4 := HB3.out.1.frozen 4
    have z5 : w3.cell? ⟨w.heap.size, 5, none⟩ = some (.bool false) := HB3.out.1.cell_ rfl
    have y5 := HB3.out.1.frozen 5
    have z6 : w3.cell? ⟨w.heap.size, 6, none⟩ = some (.int .i64 0) := HB3.out.1.cell_ rfl
    have y6 := HB3.out.1.frozen 6
    have z7 : w3.cell? ⟨w.heap.size, 7, none⟩ = some (.int .i64 0) := HB3.out.1.cell_ rfl
    have y7 := HB3.out.1.frozen 7
    have z8 : w3.cell? ⟨w.heap.size, 8, none⟩ = some (.int .i64 0) := HB3.out.1.cell_ rfl
    have y8 := HB3.out.1.frozen 8
    have z9 : w3.cell? ⟨w.heap.size, 9, none⟩ = some (.int .i64 0) := HB3.out.1.cell_ rfl
    have y9 := HB3.out.1.frozen 9
    have z10 : w3.cell? ⟨w.heap.size, 10, none⟩ = some (.int .i64 0) := HB3.out.1.cell_ rfl
    have y10 := HB3.out.1.frozen 10
    have z11 : w3.cell? ⟨w.heap.size, 11, none⟩ = some (.int .i64 0) := HB3.out.1.cell_ rfl
    have y11 := HB3.out.1.frozen 11
    have z12 : w3.cell? ⟨w.heap.size, 12, none⟩ = some (.int .i64 0) := HB3.out.1.cell_ rfl
    have y12 := HB3.out.1.frozen 12
    have zlt := HB3.out.1.lt
    go_wp2_with fail
    exact bodyPost_ret (results_cell_tmp rfl _ _ w.heap.size 31 #[.int .i64 0, .int .i64 0, .int .i64 0, .string ⟨#[]⟩, .string ⟨#[]⟩, .bool false, .int .i64 0, .int .i64 0, .int .i64 0, .int .i64 0, .int .i64 0, .int .i64 0, .int .i64 0] _ _ rfl rfl ((HB3.out.1).setAll #[.int .i64 0, .int .i64 0, .int .i64 0, .string ⟨#[]⟩, .string ⟨#[]⟩, .bool false, .int .i64 0, .int .i64 0, .int .i64 0, .int .i64 0, .int .i64 0, .int .i64 0, .int .i64 0] rfl) Tryz.underlying31 rfl infoEra) rfl ⟨by rw [← HR.out]; rfl, below_sets (Nat.le_refl _) (#[.int .i64 0, .int .i64 0, .int .i64 0, .string ⟨#[]⟩, .string ⟨#[]⟩, .bool false, .int .i64 0, .int .i64 0, .int .i64 0, .int .i64 0, .int .i64 0, .int .i64 0, .int .i64 0] : Array Value).toList 0 _ HB3.out.2⟩
  rw [if_neg hx] at hR
  have hr1 : (rulesR s1.data.toList).2 = 0 := by simpa using hx
  obtain rfl := hC3 hr1
  clear hC1 hC2 hC3 hx
  generalize rulesR s1.data.toList = RR at *
  obtain ⟨⟨kd, sv, sl⟩, r1⟩ := RR
  obtain rfl : r1 = 0 := hr1
  obtain ⟨sn, rfl⟩ : ∃ sn : ByteArray, sl = sn.data.toList := ⟨⟨sl.toArray⟩, by simp⟩
  simp only [ba_list]
  go_upto_region 7 with fail
  have HB3 := Lib.hid (show Blk (w2.alloc (.cells #[.int .i64 x, .int .i64 kd, .int .i64 sv, .string sn, .string ⟨#[]⟩, .bool false, .int .i64 0, .int .i64 0, .int .i64 0, .int .i64 0, .int .i64 0, .int .i64 0, .int .i64 0] 31)) w.heap.size 31 #[.int .i64 0, .int .i64 0, .int .i64 0, .string ⟨#[]⟩, .string ⟨#[]⟩, .bool false, .int .i64 0, .int .i64 0, .int .i64 0, .int .i64 0, .int .i64 0, .int .i64 0, .int .i64 0] ∧ Blk (w2.alloc (.cells #[.int .i64 x, .int .i64 kd, .int .i64 sv, .string sn, .string ⟨#[]⟩, .bool false, .int .i64 0, .int .i64 0, .int .i64 0, .int .i64 0, .int .i64 0, .int .i64 0, .int .i64 0] 31)) w2.heap.size 31 #[.int .i64 x, .int .i64 kd, .int .i64 sv, .string sn, .string ⟨#[]⟩, .bool false, .int .i64 0, .int .i64 0, .int .i64 0, .int .i64 0, .int .i64 0, .int .i64 0, .int .i64 0] ∧ Below w.heap.size w (w2.alloc (.cells #[.int .i64 x, .int .i64 kd, .int .i64 sv, .string sn, .string ⟨#[]⟩, .bool false, .int .i64 0, .int .i64 0, .int .i64 0, .int .i64 0, .int .i64 0, .int .i64 0, .int .i64 0] 31)) ∧ w.heap.size < w2.heap.size from ⟨HB2.out.1.alloc _, Blk.new' _ _ _ rfl, rbelow_alloc HB2.out.2 _, HB2.out.1.lt⟩)
  generalize w2.alloc (.cells #[.int .i64 x, .int .i64 kd, .int .i64 sv, .string sn, .string ⟨#[]⟩, .bool false, .int .i64 0, .int .i64 0, .int .i64 0, .int .i64 0, .int .i64 0, .int .i64 0, .int .i64 0] 31) = w3 at *
  clear HB2
  generalize w2.heap.size = g at *
  obtain ⟨-, -, k2⟩ := HRow.out _ HB3.out.2.2.1
  go_wp2_with fail
  refine (HF.out _).mono ?_
  rintro e w4 ⟨rfl, rfl⟩
  cases hf : fmtB s2.data.toList
  · rw [if_pos hf] at hR
    have HR := Lib.hid hR
    clear hR hf
    have z0 : w3.cell? ⟨w.heap.size, 0, none⟩ = some (.int .i64 0) := HB3.out.1.cell_ rfl
    have y0 := HB3.out.1.frozen 0
    have z1 : w3.cell? ⟨w.heap.size, 1, none⟩ = some (.int .i64 0) := HB3.out.1.cell_ rfl
    have y1 := HB3.out.1.frozen 1
    have z2 : w3.cell? ⟨w.heap.size, 2, none⟩ = some (.int .i64 0) := HB3.out.1.cell_ rfl
    have y2 := HB3.out.1.frozen 2
    have z3 : w3.cell? ⟨w.heap.size, 3, none⟩ = some (.string ⟨#[]⟩) := HB3.out.1.cell_ rfl
    have y3 := HB3.out.1.frozen 3
    have z4 : w3.cell? ⟨w.heap.size, 4, none⟩ = some (.string ⟨#[]⟩) := HB3.out.1.cell_ rfl
    have y4 := HB3.out.1.frozen 4
    have z5 : w3.cell? ⟨w.heap.size, 5, none⟩ = some (.bool false) := HB3.out.1.cell_ rfl
    have y5 := HB3.out.1.frozen 5
    have z6 : w3.cell? ⟨w.heap.size, 6, none⟩ = some (.int .i64 0) := HB3.out.1.cell_ rfl
    have y6 := HB3.out.1.frozen 6
    have z7 : w3.cell? ⟨w.heap.size, 7, none⟩ = some (.int .i64 0) := HB3.out.1.cell_ rfl
    have y7 := HB3.out.1.frozen 7
    have z8 : w3.cell? ⟨w.heap.size, 8, none⟩ = some (.int .i64 0) := HB3.out.1.cell_ rfl
    have y8 := HB3.out.1.frozen 8
    have z9 : w3.cell? ⟨w.heap.size, 9, none⟩ = some (.int .i64 0) := HB3.out.1.cell_ rfl
    have y9 := HB3.out.1.frozen 9
    have z10 : w3.cell? ⟨w.heap.size, 10, none⟩ = some (.int .i64 0) := HB3.out.1.cell_ rfl
    have y10 := HB3.out.1.frozen 10
    have z11 : w3.cell? ⟨w.heap.size, 11, none⟩ = some (.int .i64 0) := HB3.out.1.cell_ rfl
    have y11 := HB3.out.1.frozen 11
    have z12 : w3.cell? ⟨w.heap.size, 12, none⟩ = some (.int .i64 0) := HB3.out.1.cell_ rfl
    have y12 := HB3.out.1.frozen 12
    have zlt := HB3.out.1.lt
    go_wp2_with fail
    exact bodyPost_ret (results_cell_tmp rfl _ _ w.heap.size 31 #[.int .i64 0, .int .i64 0, .int .i64 0, .string ⟨#[]⟩, .string ⟨#[]⟩, .bool false, .int .i64 0, .int .i64 0, .int .i64 0, .int .i64 0, .int .i64 0, .int .i64 0, .int .i64 0] _ _ rfl rfl ((HB3.out.1).setAll #[.int .i64 0, .int .i64 0, .int .i64 0, .string ⟨#[]⟩, .string ⟨#[]⟩, .bool false, .int .i64 0, .int .i64 0, .int .i64 0, .int .i64 0, .int .i64 0, .int .i64 0, .int .i64 0] rfl) Tryz.underlying31 rfl infoEra) rfl ⟨by rw [← HR.out]; rfl, below_sets (Nat.le_refl _) (#[.int .i64 0, .int .i64 0, .int .i64 0, .string ⟨#[]⟩, .string ⟨#[]⟩, .bool false, .int .i64 0, .int .i64 0, .int .i64 0, .int .i64 0, .int .i64 0, .int .i64 0, .int .i64 0] : Array Value).toList 0 _ HB3.out.2.2.1⟩
  rw [if_neg (by rw [hf]; decide)] at hR
  clear hf
  have q4 : w3.cell? ⟨g, 4, none⟩ = some (.string ⟨#[]⟩) := HB3.out.2.1.cell_ rfl
  have f4 := HB3.out.2.1.frozen 4
  have hlt := HB3.out.2.1.lt
  obtain ⟨w5, hw5⟩ : ∃ W, w3.setCell ⟨g, 4, none⟩ (.string s2) = W := ⟨_, rfl⟩
  have HB5 := Lib.hid (show Blk w5 w.heap.size 31 #[.int .i64 0, .int .i64 0, .int .i64 0, .string ⟨#[]⟩, .string ⟨#[]⟩, .bool false, .int .i64 0, .int .i64 0, .int .i64 0, .int .i64 0, .int .i64 0, .int .i64 0, .int .i64 0] ∧ Blk w5 g 31 #[.int .i64 x, .int .i64 kd, .int .i64 sv, .string sn, .string s2, .bool false, .int .i64 0, .int .i64 0, .int .i64 0, .int .i64 0, .int .i64 0, .int .i64 0, .int .i64 0] ∧ Below w.heap.size w w5 ∧ w.heap.size < g from hw5 ▸ ⟨HB3.out.1.far (show w.heap.size ≠ g by have := HB3.out.2.2.2; omega) _, HB3.out.2.1.set_ 4 _, HB3.out.2.2.1.setCell (show w.heap.size ≤ g by have := HB3.out.2.2.2; omega) _, HB3.out.2.2.2⟩)
  go_upto_region 14 with fail
  try simp only [hw5]
  clear hw5 HB3 q4 f4 hlt k2
  rw [if_neg (by simp)] at hR
  go_wp2_with fail
  refine (HE.out _ _ HB5.out.2.2.1).mono ?_
  rintro e w6 ⟨⟨C, rfl, hC1, hC2, hC3⟩, hb⟩
  have HB6 := Lib.hid (show Blk w6 w.heap.size 31 #[.int .i64 0, .int .i64 0, .int .i64 0, .string ⟨#[]⟩, .string ⟨#[]⟩, .bool false, .int .i64 0, .int .i64 0, .int .i64 0, .int .i64 0, .int .i64 0, .int .i64 0, .int .i64 0] ∧ Blk w6 g 31 #[.int .i64 x, .int .i64 kd, .int .i64 sv, .string sn, .string s2, .bool false, .int .i64 0, .int .i64 0, .int .i64 0, .int .i64 0, .int .i64 0, .int .i64 0, .int .i64 0] ∧ Below w.heap.size w w6 ∧ w.heap.size < g from ⟨HB5.out.1.below hb HB5.out.1.lt, HB5.out.2.1.below hb HB5.out.2.1.lt, HB5.out.2.2.1.trans (hb.mono HB5.out.2.2.1.size), HB5.out.2.2.2⟩)
  clear hb HB5 HE
  generalize endR_ [s3.data.toList, s4.data.toList, s5.data.toList] = EE at *
  obtain ⟨⟨is, yr, mo, ⟨d1, d2, d3⟩, ⟨h1, h2⟩⟩, e3⟩ := EE
  by_cases hx : e3 ≠ 0
  · rw [if_pos hx] at hR
    have hx2 : (e3 != 0) = true := bne_iff_ne.2 hx
    have HR := Lib.hid hR
    have HC := Lib.hid (show (Tryz.prog.info? 29).map (·.size) = some C.size ∧ C.all (·.oneCell') = true ∧ C.size = 8 from ⟨by rw [hC1]; exact infoU, hC2, hC1⟩)
    clear hR hx hC1 hC2 hC3
    have HN := Lib.hid (Blk.new' w6 29 #[.bool false, .int .i64 0, .int .i64 0, .int .i64 0, .int .i64 0, .int .i64 0, .int .i64 0, .int .i64 0] rfl)
    go_upto_region 15 with (refine wpList_store_mid rfl 29 (.tmp 7) (.tmp 59) rfl w6.heap.size 0 C rfl rfl (HN.out.there (by rw [HC.out.2.2]; decide)) HC.out.1 HC.out.2.1 ?_)
    have HB7 := Lib.hid (show Blk ((w6.alloc (.cells #[.bool false, .int .i64 0, .int .i64 0, .int .i64 0, .int .i64 0, .int .i64 0, .int .i64 0, .int .i64 0] 29)).setCells w6.heap.size 0 C.toList) w.heap.size 31 #[.int .i64 0, .int .i64 0, .int .i64 0, .string ⟨#[]⟩, .string ⟨#[]⟩, .bool false, .int .i64 0, .int .i64 0, .int .i64 0, .int .i64 0, .int .i64 0, .int .i64 0, .int .i64 0] ∧ Below w.heap.size w ((w6.alloc (.cells #[.bool false, .int .i64 0, .int .i64 0, .int .i64 0, .int .i64 0, .int .i64 0, .int .i64 0, .int .i64 0] 29)).setCells w6.heap.size 0 C.toList) from ⟨Blk.farSets (HB6.out.1.alloc _) (by have := HB6.out.1.lt; omega) _ _, below_sets (HB6.out.2.2.1.size) _ _ _ (rbelow_alloc HB6.out.2.2.1 _)⟩)
    generalize (w6.alloc (.cells #[.bool false, .int .i64 0, .int .i64 0, .int .i64 0, .int .i64 0, .int .i64 0, .int .i64 0, .int .i64 0] 29)).setCells w6.heap.size 0 C.toList = w7 at *
    clear HN HB6
    have z0 : w7.cell? ⟨w.heap.size, 0, none⟩ = some (.int .i64 0) := HB7.out.1.cell_ rfl
    have y0 := HB7.out.1.frozen 0
    have z1 : w7.cell? ⟨w.heap.size, 1, none⟩ = some (.int .i64 0) := HB7.out.1.cell_ rfl
    have y1 := HB7.out.1.frozen 1
    have z2 : w7.cell? ⟨w.heap.size, 2, none⟩ = some (.int .i64 0) := HB7.out.1.cell_ rfl
    have y2 := HB7.out.1.frozen 2
    have z3 : w7.cell? ⟨w.heap.size, 3, none⟩ = some (.string ⟨#[]⟩) := HB7.out.1.cell_ rfl
    have y3 := HB7.out.1.frozen 3
    have z4 : w7.cell? ⟨w.heap.size, 4, none⟩ = some (.string ⟨#[]⟩) := HB7.out.1.cell_ rfl
    have y4 := HB7.out.1.frozen 4
    have z5 : w7.cell? ⟨w.heap.size, 5, none⟩ = some (.bool false) := HB7.out.1.cell_ rfl
    have y5 := HB7.out.1.frozen 5
    have z6 : w7.cell? ⟨w.heap.size, 6, none⟩ = some (.int .i64 0) := HB7.out.1.cell_ rfl
    have y6 := HB7.out.1.frozen 6
    have z7 : w7.cell? ⟨w.heap.size, 7, none⟩ = some (.int .i64 0) := HB7.out.1.cell_ rfl
    have y7 := HB7.out.1.frozen 7
    have z8 : w7.cell? ⟨w.heap.size, 8, none⟩ = some (.int .i64 0) := HB7.out.1.cell_ rfl
    have y8 := HB7.out.1.frozen 8
    have z9 : w7.cell? ⟨w.heap.size, 9, none⟩ = some (.int .i64 0) := HB7.out.1.cell_ rfl
    have y9 := HB7.out.1.frozen 9
    have z10 : w7.cell? ⟨w.heap.size, 10, none⟩ = some (.int .i64 0) := HB7.out.1.cell_ rfl
    have y10 := HB7.out.1.frozen 10
    have z11 : w7.cell? ⟨w.heap.size, 11, none⟩ = some (.int .i64 0) := HB7.out.1.cell_ rfl
    have y11 := HB7.out.1.frozen 11
    have z12 : w7.cell? ⟨w.heap.size, 12, none⟩ = some (.int .i64 0) := HB7.out.1.cell_ rfl
    have y12 := HB7.out.1.frozen 12
    have zlt := HB7.out.1.lt
    go_wp2_with fail
    exact bodyPost_ret (results_cell_tmp rfl _ _ w.heap.size 31 #[.int .i64 0, .int .i64 0, .int .i64 0, .string ⟨#[]⟩, .string ⟨#[]⟩, .bool false, .int .i64 0, .int .i64 0, .int .i64 0, .int .i64 0, .int .i64 0, .int .i64 0, .int .i64 0] _ _ rfl rfl ((HB7.out.1).setAll #[.int .i64 0, .int .i64 0, .int .i64 0, .string ⟨#[]⟩, .string ⟨#[]⟩, .bool false, .int .i64 0, .int .i64 0, .int .i64 0, .int .i64 0, .int .i64 0, .int .i64 0, .int .i64 0] rfl) Tryz.underlying31 rfl infoEra) rfl ⟨by rw [← HR.out]; rfl, below_sets (Nat.le_refl _) (#[.int .i64 0, .int .i64 0, .int .i64 0, .string ⟨#[]⟩, .string ⟨#[]⟩, .bool false, .int .i64 0, .int .i64 0, .int .i64 0, .int .i64 0, .int .i64 0, .int .i64 0, .int .i64 0] : Array Value).toList 0 _ HB7.out.2⟩
  rw [if_neg hx] at hR
  obtain rfl : e3 = 0 := by simpa using hx
  obtain rfl := hC3 rfl
  simp only [UntilP.arr]
  clear hC1 hC2 hC3 hx
  have q5 : w6.cell? ⟨g, 5, none⟩ = some (.bool false) := HB6.out.2.1.cell_ rfl
  have f5 := HB6.out.2.1.frozen 5
  have q6 : w6.cell? ⟨g, 6, none⟩ = some (.int .i64 0) := HB6.out.2.1.cell_ rfl
  have f6 := HB6.out.2.1.frozen 6
  have q7 : w6.cell? ⟨g, 7, none⟩ = some (.int .i64 0) := HB6.out.2.1.cell_ rfl
  have f7 := HB6.out.2.1.frozen 7
  have q8 : w6.cell? ⟨g, 8, none⟩ = some (.int .i64 0) := HB6.out.2.1.cell_ rfl
  have f8 := HB6.out.2.1.frozen 8
  have q9 : w6.cell? ⟨g, 9, none⟩ = some (.int .i64 0) := HB6.out.2.1.cell_ rfl
  have f9 := HB6.out.2.1.frozen 9
  have q10 : w6.cell? ⟨g, 10, none⟩ = some (.int .i64 0) := HB6.out.2.1.cell_ rfl
  have f10 := HB6.out.2.1.frozen 10
  have q11 : w6.cell? ⟨g, 11, none⟩ = some (.int .i64 0) := HB6.out.2.1.cell_ rfl
  have f11 := HB6.out.2.1.frozen 11
  have q12 : w6.cell? ⟨g, 12, none⟩ = some (.int .i64 0) := HB6.out.2.1.cell_ rfl
  have f12 := HB6.out.2.1.frozen 12
  have hlt := HB6.out.2.1.lt
  obtain ⟨w7, hw7⟩ : ∃ W, (((((((((w6.setCell ⟨g, 5, none⟩ (.bool is)).setCell ⟨g, 6, none⟩ (.int .i64 yr)).setCell ⟨g, 7, none⟩ (.int .i64 mo)).setCell ⟨g, 8, none⟩ (.int .i64 d1)).setCell ⟨g, 9, none⟩ (.int .i64 d2)).setCell ⟨g, 10, none⟩ (.int .i64 d3)).setCell ⟨g, 11, none⟩ (.int .i64 h1)).setCell ⟨g, 12, none⟩ (.int .i64 h2)).alloc (.cells #[.bool is, .int .i64 yr, .int .i64 mo, .int .i64 d1, .int .i64 d2, .int .i64 d3, .int .i64 h1, .int .i64 h2] 29)) = W := ⟨_, rfl⟩
  have HB7 := Lib.hid (show Blk w7 w.heap.size 31 #[.int .i64 0, .int .i64 0, .int .i64 0, .string ⟨#[]⟩, .string ⟨#[]⟩, .bool false, .int .i64 0, .int .i64 0, .int .i64 0, .int .i64 0, .int .i64 0, .int .i64 0, .int .i64 0] ∧ Blk w7 g 31 #[.int .i64 x, .int .i64 kd, .int .i64 sv, .string sn, .string s2, .bool is, .int .i64 yr, .int .i64 mo, .int .i64 d1, .int .i64 d2, .int .i64 d3, .int .i64 h1, .int .i64 h2] ∧ Below w.heap.size w w7 ∧ w.heap.size < g from by
    rw [← hw7]
    exact ⟨(Blk.farSets HB6.out.1 (show w.heap.size ≠ g by have := HB6.out.2.2.2; omega) [.bool is, .int .i64 yr, .int .i64 mo, .int .i64 d1, .int .i64 d2, .int .i64 d3, .int .i64 h1, .int .i64 h2] 5).alloc _, (Blk.setMid [.int .i64 x, .int .i64 kd, .int .i64 sv, .string sn, .string s2] [.bool false, .int .i64 0, .int .i64 0, .int .i64 0, .int .i64 0, .int .i64 0, .int .i64 0, .int .i64 0] [.bool is, .int .i64 yr, .int .i64 mo, .int .i64 d1, .int .i64 d2, .int .i64 d3, .int .i64 h1, .int .i64 h2] [] HB6.out.2.1 rfl).alloc _, rbelow_alloc (below_sets (show w.heap.size ≤ g by have := HB6.out.2.2.2; omega) [.bool is, .int .i64 yr, .int .i64 mo, .int .i64 d1, .int .i64 d2, .int .i64 d3, .int .i64 h1, .int .i64 h2] 5 _ HB6.out.2.2.1) _, HB6.out.2.2.2⟩)
  go_upto_region 18 with fail
  try simp only [hw7]
  clear hw7 HB6 q5 f5 q6 f6 q7 f7 q8 f8 q9 f9 q10 f10 q11 f11 q12 f12 hlt
  have HR := Lib.hid hR
  clear hR
  obtain ⟨C, hCC⟩ : ∃ C : Array Value, #[.int .i64 x, .int .i64 kd, .int .i64 sv, .string sn, .string s2, .bool is, .int .i64 yr, .int .i64 mo, .int .i64 d1, .int .i64 d2, .int .i64 d3, .int .i64 h1, .int .i64 h2] = C := ⟨_, rfl⟩
  have Hi := Lib.hid (show (Tryz.prog.info? 31).map (·.size) = some C.size ∧ C.all (·.oneCell') = true ∧ C.size = 13 from hCC ▸ ⟨infoEra, by simp [Value.oneCell'], rfl⟩)
  rw [hCC] at HB7
  have HCC := Lib.hid hCC
  clear hCC
  go_wp2_with (first
    | (refine wpList_load_row rfl 31 (.tmp 6) rfl g rfl 31 C (0, 0) _ HB7.out.2.1 Tryz.underlying31 rfl Hi.out.1 ?_)
    | (refine wpList_store_mid rfl 31 (.tmp 2) (.tmp 67) rfl (w.heap.size) 0 C rfl rfl (HB7.out.1.there (by rw [Hi.out.2.2]; decide)) Hi.out.1 Hi.out.2.1 ?_))
  refine bodyPost_ret (results_cell_tmp rfl _ _ (w.heap.size) 31 C _ _ rfl rfl (HB7.out.1.setAll C Hi.out.2.2) Tryz.underlying31 rfl Hi.out.1) rfl ⟨by rw [← HCC.out, ← HR.out]; simp [EraP.cells, UntilP.none], below_sets (Nat.le_refl _) _ _ _ HB7.out.2.2.1⟩

set_option maxRecDepth 100000 in
set_option maxHeartbeats 2000000 in
theorem r11parse7 (b o c : Nat) (s0 s1 s2 s3 s4 s5 s6 : ByteArray) (w : World) (hb : b < w.heap.size) (hc : 7 ≤ c) (hs0 : s0.size ≤ 1048576) (hs1 : s1.size ≤ 1048576) (hs2 : s2.size ≤ 1048576) (hs3 : s3.size ≤ 1048576) (hs4 : s4.size ≤ 1048576) (hs5 : s5.size ≤ 1048576) (hs6 : s6.size ≤ 1048576)
    (hat : StrRow w b o [s0.data.toList, s1.data.toList, s2.data.toList, s3.data.toList, s4.data.toList, s5.data.toList, s6.data.toList]) :
    Calls Tryz.prog 12 #[.slice (some ⟨b, o, none⟩) 7 c] w fun e w' => e = .returned (.tuple #[.agg (eraR [s0.data.toList, s1.data.toList, s2.data.toList, s3.data.toList, s4.data.toList, s5.data.toList, s6.data.toList]).1.cells, .int .i64 (eraR [s0.data.toList, s1.data.toList, s2.data.toList, s3.data.toList, s4.data.toList, s5.data.toList, s6.data.toList]).2]) ∧ Below w.heap.size w w' := by
  obtain ⟨R, hR⟩ : ∃ R, eraR [s0.data.toList, s1.data.toList, s2.data.toList, s3.data.toList, s4.data.toList, s5.data.toList, s6.data.toList] = R := ⟨_, rfl⟩
  rw [hR]
  have HRow := Lib.hid (show ∀ W, Below w.heap.size w W → W.cell? ⟨b, o, none⟩ = some (.string s0) ∧ W.cell? ⟨b, o + 1, none⟩ = some (.string s1) ∧ W.cell? ⟨b, o + 2, none⟩ = some (.string s2) from fun W hW => ⟨by have := (hat.below hW).at_ 0 _ rfl; rwa [ba_list] at this, by have := (hat.below hW).at_ 1 _ rfl; rwa [ba_list] at this, by have := (hat.below hW).at_ 2 _ rfl; rwa [ba_list] at this⟩)
  unfold eraR at hR
  rw [if_neg (by simp)] at hR
  simp only [List.getD_cons_zero, List.getD_cons_succ] at hR
  have HP := Lib.hid (fun W => r4parse_any s0 W hs0)
  have HRu := Lib.hid (fun W off => r11rules_any s1 off W hs1)
  have HF := Lib.hid (fun W => calls_flip (r11written_any s2 W hs2))
  have HE := Lib.hid (show ∀ W c, Below w.heap.size w W → Calls Tryz.prog 25 #[.slice (some ⟨b, o + 3, none⟩) 4 c] W fun e w' => EndC [s3.data.toList, s4.data.toList, s5.data.toList, s6.data.toList] e ∧ Below W.heap.size W w' from fun W c hW => r11end_any b (o + 3) 4 c [s3.data.toList, s4.data.toList, s5.data.toList, s6.data.toList] W (hat.below hW).tail.tail.tail rfl (by decide) (by decide) (by intro l hl; simp only [List.mem_cons, List.not_mem_nil, or_false] at hl; rcases hl with rfl | rfl | rfl | rfl <;> simpa))
  have hE : List.drop 3 [s0.data.toList, s1.data.toList, s2.data.toList, s3.data.toList, s4.data.toList, s5.data.toList, s6.data.toList] = [s3.data.toList, s4.data.toList, s5.data.toList, s6.data.toList] := rfl
  rw [hE] at hR
  clear hE
  have hcc : ¬ c = 3 := by omega
  have hcc2 : (3 : Int) ≤ (c : Int) := by omega
  clear hat
  have HB0 := Lib.hid (And.intro (Blk.new' w 31 #[.int .i64 0, .int .i64 0, .int .i64 0, .string ⟨#[]⟩, .string ⟨#[]⟩, .bool false, .int .i64 0, .int .i64 0, .int .i64 0, .int .i64 0, .int .i64 0, .int .i64 0, .int .i64 0] rfl) ((Below.refl w.heap.size w).alloc (Nat.le_refl _) (.cells #[.int .i64 0, .int .i64 0, .int .i64 0, .string ⟨#[]⟩, .string ⟨#[]⟩, .bool false, .int .i64 0, .int .i64 0, .int .i64 0, .int .i64 0, .int .i64 0, .int .i64 0, .int .i64 0] 31)))
  generalize offParseR s0.data.toList = p0 at *
  obtain ⟨x, e0⟩ := p0
  obtain ⟨k0, -⟩ := HRow.out _ HB0.out.2
  go_enter Tryz.func12, Tryz.ntmps12
  go_wp2_with fail
  refine (HP.out _).mono ?_
  rintro e w1 ⟨rfl, hb1⟩
  have HB1 := Lib.hid (And.intro (HB0.out.1.below hb1 HB0.out.1.lt) (HB0.out.2.trans (hb1.mono HB0.out.2.size)))
  clear hb1 HB0 HP k0
  by_cases hx : e0 ≠ 0
  · rw [if_pos hx] at hR
    have hx2 : (e0 != 0) = true := bne_iff_ne.2 hx
    have HR := Lib.hid hR
    clear hR hx
    have z0 : w1.cell? ⟨w.heap.size, 0, none⟩ = some (.int .i64 0) := HB1.out.1.cell_ rfl
    have y0 := HB1.out.1.frozen 0
    have z1 : w1.cell? ⟨w.heap.size, 1, none⟩ = some (.int .i64 0) := HB1.out.1.cell_ rfl
    have y1 := HB1.out.1.frozen 1
    have z2 : w1.cell? ⟨w.heap.size, 2, none⟩ = some (.int .i64 0) := HB1.out.1.cell_ rfl
    have y2 := HB1.out.1.frozen 2
    have z3 : w1.cell? ⟨w.heap.size, 3, none⟩ = some (.string ⟨#[]⟩) := HB1.out.1.cell_ rfl
    have y3 := HB1.out.1.frozen 3
    have z4 : w1.cell? ⟨w.heap.size, 4, none⟩ = some (.string ⟨#[]⟩) := HB1.out.1.cell_ rfl
    have y4 := HB1.out.1.frozen 4
    have z5 : w1.cell? ⟨w.heap.size, 5, none⟩ = some (.bool false) := HB1.out.1.cell_ rfl
    have y5 := HB1.out.1.frozen 5
    have z6 : w1.cell? ⟨w.heap.size, 6, none⟩ = some (.int .i64 0) := HB1.out.1.cell_ rfl
    have y6 := HB1.out.1.frozen 6
    have z7 : w1.cell? ⟨w.heap.size, 7, none⟩ = some (.int .i64 0) := HB1.out.1.cell_ rfl
    have y7 := HB1.out.1.frozen 7
    have z8 : w1.cell? ⟨w.heap.size, 8, none⟩ = some (.int .i64 0) := HB1.out.1.cell_ rfl
    have y8 := HB1.out.1.frozen 8
    have z9 : w1.cell? ⟨w.heap.size, 9, none⟩ = some (.int .i64 0) := HB1.out.1.cell_ rfl
    have y9 := HB1.out.1.frozen 9
    have z10 : w1.cell? ⟨w.heap.size, 10, none⟩ = some (.int .i64 0) := HB1.out.1.cell_ rfl
    have y10 := HB1.out.1.frozen 10
    have z11 : w1.cell? ⟨w.heap.size, 11, none⟩ = some (.int .i64 0) := HB1.out.1.cell_ rfl
    have y11 := HB1.out.1.frozen 11
    have z12 : w1.cell? ⟨w.heap.size, 12, none⟩ = some (.int .i64 0) := HB1.out.1.cell_ rfl
    have y12 := HB1.out.1.frozen 12
    have zlt := HB1.out.1.lt
    go_wp2_with fail
    exact bodyPost_ret (results_cell_tmp rfl _ _ w.heap.size 31 #[.int .i64 0, .int .i64 0, .int .i64 0, .string ⟨#[]⟩, .string ⟨#[]⟩, .bool false, .int .i64 0, .int .i64 0, .int .i64 0, .int .i64 0, .int .i64 0, .int .i64 0, .int .i64 0] _ _ rfl rfl ((HB1.out.1).setAll #[.int .i64 0, .int .i64 0, .int .i64 0, .string ⟨#[]⟩, .string ⟨#[]⟩, .bool false, .int .i64 0, .int .i64 0, .int .i64 0, .int .i64 0, .int .i64 0, .int .i64 0, .int .i64 0] rfl) Tryz.underlying31 rfl infoEra) rfl ⟨by rw [← HR.out]; rfl, below_sets (Nat.le_refl _) (#[.int .i64 0, .int .i64 0, .int .i64 0, .string ⟨#[]⟩, .string ⟨#[]⟩, .bool false, .int .i64 0, .int .i64 0, .int .i64 0, .int .i64 0, .int .i64 0, .int .i64 0, .int .i64 0] : Array Value).toList 0 _ HB1.out.2⟩
  rw [if_neg hx] at hR
  obtain rfl : e0 = 0 := by simpa using hx
  clear hx
  obtain ⟨-, k1, -⟩ := HRow.out _ HB1.out.2
  go_wp2_with fail
  refine (HRu.out _ _).mono ?_
  rintro e w2 ⟨⟨C, rfl, hC1, hC2, hC3⟩, hb2⟩
  have HB2 := Lib.hid (And.intro (HB1.out.1.below hb2 HB1.out.1.lt) (HB1.out.2.trans (hb2.mono HB1.out.2.size)))
  clear hb2 HB1 HRu k1
  by_cases hx : (rulesR s1.data.toList).2 ≠ 0
  · rw [if_pos hx] at hR
    have hx2 : ((rulesR s1.data.toList).2 != 0) = true := bne_iff_ne.2 hx
    have HR := Lib.hid hR
    have HC := Lib.hid (show (Tryz.prog.info? 31).map (·.size) = some C.size ∧ C.all (·.oneCell') = true ∧ C.size = 13 from ⟨by rw [hC1]; exact infoEra, hC2, hC1⟩)
    clear hR hx hC1 hC2 hC3
    generalize (rulesR s1.data.toList).2 = e1 at *
    have HN := Lib.hid (Blk.new' w2 31 #[.int .i64 0, .int .i64 0, .int .i64 0, .string ⟨#[]⟩, .string ⟨#[]⟩, .bool false, .int .i64 0, .int .i64 0, .int .i64 0, .int .i64 0, .int .i64 0, .int .i64 0, .int .i64 0] rfl)
    go_upto_region 7 with (refine wpList_store_mid rfl 31 (.tmp 6) (.tmp 35) rfl w2.heap.size 0 C rfl rfl (HN.out.there (by rw [HC.out.2.2]; decide)) HC.out.1 HC.out.2.1 ?_)
    have HB3 := Lib.hid (show Blk ((w2.alloc (.cells #[.int .i64 0, .int .i64 0, .int .i64 0, .string ⟨#[]⟩, .string ⟨#[]⟩, .bool false, .int .i64 0, .int .i64 0, .int .i64 0, .int .i64 0, .int .i64 0, .int .i64 0, .int .i64 0] 31)).setCells w2.heap.size 0 C.toList) w.heap.size 31 #[.int .i64 0, .int .i64 0, .int .i64 0, .string ⟨#[]⟩, .string ⟨#[]⟩, .bool false, .int .i64 0, .int .i64 0, .int .i64 0, .int .i64 0, .int .i64 0, .int .i64 0, .int .i64 0] ∧ Below w.heap.size w ((w2.alloc (.cells #[.int .i64 0, .int .i64 0, .int .i64 0, .string ⟨#[]⟩, .string ⟨#[]⟩, .bool false, .int .i64 0, .int .i64 0, .int .i64 0, .int .i64 0, .int .i64 0, .int .i64 0, .int .i64 0] 31)).setCells w2.heap.size 0 C.toList) from ⟨Blk.farSets (HB2.out.1.alloc _) (by have := HB2.out.1.lt; omega) _ _, below_sets (HB2.out.2.size) _ _ _ (rbelow_alloc HB2.out.2 _)⟩)
    generalize (w2.alloc (.cells #[.int .i64 0, .int .i64 0, .int .i64 0, .string ⟨#[]⟩, .string ⟨#[]⟩, .bool false, .int .i64 0, .int .i64 0, .int .i64 0, .int .i64 0, .int .i64 0, .int .i64 0, .int .i64 0] 31)).setCells w2.heap.size 0 C.toList = w3 at *
    clear HN HB2
    have z0 : w3.cell? ⟨w.heap.size, 0, none⟩ = some (.int .i64 0) := HB3.out.1.cell_ rfl
    have y0 := HB3.out.1.frozen 0
    have z1 : w3.cell? ⟨w.heap.size, 1, none⟩ = some (.int .i64 0) := HB3.out.1.cell_ rfl
    have y1 := HB3.out.1.frozen 1
    have z2 : w3.cell? ⟨w.heap.size, 2, none⟩ = some (.int .i64 0) := HB3.out.1.cell_ rfl
    have y2 := HB3.out.1.frozen 2
    have z3 : w3.cell? ⟨w.heap.size, 3, none⟩ = some (.string ⟨#[]⟩) := HB3.out.1.cell_ rfl
    have y3 := HB3.out.1.frozen 3
    have z4 : w3.cell? ⟨w.heap.size, 4, none⟩ = some (.string ⟨#[]⟩) := HB3.out.1.cell_ rfl
    have y4 := HB3.out.1.frozen 4
    have z5 : w3.cell? ⟨w.heap.size, 5, none⟩ = some (.bool false) := HB3.out.1.cell_ rfl
    have y5 := HB3.out.1.frozen 5
    have z6 : w3.cell? ⟨w.heap.size, 6, none⟩ = some (.int .i64 0) := HB3.out.1.cell_ rfl
    have y6 := HB3.out.1.frozen 6
    have z7 : w3.cell? ⟨w.heap.size, 7, none⟩ = some (.int .i64 0) := HB3.out.1.cell_ rfl
    have y7 := HB3.out.1.frozen 7
    have z8 : w3.cell? ⟨w.heap.size, 8, none⟩ = some (.int .i64 0) := HB3.out.1.cell_ rfl
    have y8 := HB3.out.1.frozen 8
    have z9 : w3.cell? ⟨w.heap.size, 9, none⟩ = some (.int .i64 0) := HB3.out.1.cell_ rfl
    have y9 := HB3.out.1.frozen 9
    have z10 : w3.cell? ⟨w.heap.size, 10, none⟩ = some (.int .i64 0) := HB3.out.1.cell_ rfl
    have y10 := HB3.out.1.frozen 10
    have z11 : w3.cell? ⟨w.heap.size, 11, none⟩ = some (.int .i64 0) := HB3.out.1.cell_ rfl
    have y11 := HB3.out.1.frozen 11
    have z12 : w3.cell? ⟨w.heap.size, 12, none⟩ = some (.int .i64 0) := HB3.out.1.cell_ rfl
    have y12 := HB3.out.1.frozen 12
    have zlt := HB3.out.1.lt
    go_wp2_with fail
    exact bodyPost_ret (results_cell_tmp rfl _ _ w.heap.size 31 #[.int .i64 0, .int .i64 0, .int .i64 0, .string ⟨#[]⟩, .string ⟨#[]⟩, .bool false, .int .i64 0, .int .i64 0, .int .i64 0, .int .i64 0, .int .i64 0, .int .i64 0, .int .i64 0] _ _ rfl rfl ((HB3.out.1).setAll #[.int .i64 0, .int .i64 0, .int .i64 0, .string ⟨#[]⟩, .string ⟨#[]⟩, .bool false, .int .i64 0, .int .i64 0, .int .i64 0, .int .i64 0, .int .i64 0, .int .i64 0, .int .i64 0] rfl) Tryz.underlying31 rfl infoEra) rfl ⟨by rw [← HR.out]; rfl, below_sets (Nat.le_refl _) (#[.int .i64 0, .int .i64 0, .int .i64 0, .string ⟨#[]⟩, .string ⟨#[]⟩, .bool false, .int .i64 0, .int .i64 0, .int .i64 0, .int .i64 0, .int .i64 0, .int .i64 0, .int .i64 0] : Array Value).toList 0 _ HB3.out.2⟩
  rw [if_neg hx] at hR
  have hr1 : (rulesR s1.data.toList).2 = 0 := by simpa using hx
  obtain rfl := hC3 hr1
  clear hC1 hC2 hC3 hx
  generalize rulesR s1.data.toList = RR at *
  obtain ⟨⟨kd, sv, sl⟩, r1⟩ := RR
  obtain rfl : r1 = 0 := hr1
  obtain ⟨sn, rfl⟩ : ∃ sn : ByteArray, sl = sn.data.toList := ⟨⟨sl.toArray⟩, by simp⟩
  simp only [ba_list]
  go_upto_region 7 with fail
  have HB3 := Lib.hid (show Blk (w2.alloc (.cells #[.int .i64 x, .int .i64 kd, .int .i64 sv, .string sn, .string ⟨#[]⟩, .bool false, .int .i64 0, .int .i64 0, .int .i64 0, .int .i64 0, .int .i64 0, .int .i64 0, .int .i64 0] 31)) w.heap.size 31 #[.int .i64 0, .int .i64 0, .int .i64 0, .string ⟨#[]⟩, .string ⟨#[]⟩, .bool false, .int .i64 0, .int .i64 0, .int .i64 0, .int .i64 0, .int .i64 0, .int .i64 0, .int .i64 0] ∧ Blk (w2.alloc (.cells #[.int .i64 x, .int .i64 kd, .int .i64 sv, .string sn, .string ⟨#[]⟩, .bool false, .int .i64 0, .int .i64 0, .int .i64 0, .int .i64 0, .int .i64 0, .int .i64 0, .int .i64 0] 31)) w2.heap.size 31 #[.int .i64 x, .int .i64 kd, .int .i64 sv, .string sn, .string ⟨#[]⟩, .bool false, .int .i64 0, .int .i64 0, .int .i64 0, .int .i64 0, .int .i64 0, .int .i64 0, .int .i64 0] ∧ Below w.heap.size w (w2.alloc (.cells #[.int .i64 x, .int .i64 kd, .int .i64 sv, .string sn, .string ⟨#[]⟩, .bool false, .int .i64 0, .int .i64 0, .int .i64 0, .int .i64 0, .int .i64 0, .int .i64 0, .int .i64 0] 31)) ∧ w.heap.size < w2.heap.size from ⟨HB2.out.1.alloc _, Blk.new' _ _ _ rfl, rbelow_alloc HB2.out.2 _, HB2.out.1.lt⟩)
  generalize w2.alloc (.cells #[.int .i64 x, .int .i64 kd, .int .i64 sv, .string sn, .string ⟨#[]⟩, .bool false, .int .i64 0, .int .i64 0, .int .i64 0, .int .i64 0, .int .i64 0, .int .i64 0, .int .i64 0] 31) = w3 at *
  clear HB2
  generalize w2.heap.size = g at *
  obtain ⟨-, -, k2⟩ := HRow.out _ HB3.out.2.2.1
  go_wp2_with fail
  refine (HF.out _).mono ?_
  rintro e w4 ⟨rfl, rfl⟩
  cases hf : fmtB s2.data.toList
  · rw [if_pos hf] at hR
    have HR := Lib.hid hR
    clear hR hf
    have z0 : w3.cell? ⟨w.heap.size, 0, none⟩ = some (.int .i64 0) := HB3.out.1.cell_ rfl
    have y0 := HB3.out.1.frozen 0
    have z1 : w3.cell? ⟨w.heap.size, 1, none⟩ = some (.int .i64 0) := HB3.out.1.cell_ rfl
    have y1 := HB3.out.1.frozen 1
    have z2 : w3.cell? ⟨w.heap.size, 2, none⟩ = some (.int .i64 0) := HB3.out.1.cell_ rfl
    have y2 := HB3.out.1.frozen 2
    have z3 : w3.cell? ⟨w.heap.size, 3, none⟩ = some (.string ⟨#[]⟩) := HB3.out.1.cell_ rfl
    have y3 := HB3.out.1.frozen 3
    have z4 : w3.cell? ⟨w.heap.size, 4, none⟩ = some (.string ⟨#[]⟩) := HB3.out.1.cell_ rfl
    have y4 := HB3.out.1.frozen 4
    have z5 : w3.cell? ⟨w.heap.size, 5, none⟩ = some (.bool false) := HB3.out.1.cell_ rfl
    have y5 := HB3.out.1.frozen 5
    have z6 : w3.cell? ⟨w.heap.size, 6, none⟩ = some (.int .i64 0) := HB3.out.1.cell_ rfl
    have y6 := HB3.out.1.frozen 6
    have z7 : w3.cell? ⟨w.heap.size, 7, none⟩ = some (.int .i64 0) := HB3.out.1.cell_ rfl
    have y7 := HB3.out.1.frozen 7
    have z8 : w3.cell? ⟨w.heap.size, 8, none⟩ = some (.int .i64 0) := HB3.out.1.cell_ rfl
    have y8 := HB3.out.1.frozen 8
    have z9 : w3.cell? ⟨w.heap.size, 9, none⟩ = some (.int .i64 0) := HB3.out.1.cell_ rfl
    have y9 := HB3.out.1.frozen 9
    have z10 : w3.cell? ⟨w.heap.size, 10, none⟩ = some (.int .i64 0) := HB3.out.1.cell_ rfl
    have y10 := HB3.out.1.frozen 10
    have z11 : w3.cell? ⟨w.heap.size, 11, none⟩ = some (.int .i64 0) := HB3.out.1.cell_ rfl
    have y11 := HB3.out.1.frozen 11
    have z12 : w3.cell? ⟨w.heap.size, 12, none⟩ = some (.int .i64 0) := HB3.out.1.cell_ rfl
    have y12 := HB3.out.1.frozen 12
    have zlt := HB3.out.1.lt
    go_wp2_with fail
    exact bodyPost_ret (results_cell_tmp rfl _ _ w.heap.size 31 #[.int .i64 0, .int .i64 0, .int .i64 0, .string ⟨#[]⟩, .string ⟨#[]⟩, .bool false, .int .i64 0, .int .i64 0, .int .i64 0, .int .i64 0, .int .i64 0, .int .i64 0, .int .i64 0] _ _ rfl rfl ((HB3.out.1).setAll #[.int .i64 0, .int .i64 0, .int .i64 0, .string ⟨#[]⟩, .string ⟨#[]⟩, .bool false, .int .i64 0, .int .i64 0, .int .i64 0, .int .i64 0, .int .i64 0, .int .i64 0, .int .i64 0] rfl) Tryz.underlying31 rfl infoEra) rfl ⟨by rw [← HR.out]; rfl, below_sets (Nat.le_refl _) (#[.int .i64 0, .int .i64 0, .int .i64 0, .string ⟨#[]⟩, .string ⟨#[]⟩, .bool false, .int .i64 0, .int .i64 0, .int .i64 0, .int .i64 0, .int .i64 0, .int .i64 0, .int .i64 0] : Array Value).toList 0 _ HB3.out.2.2.1⟩
  rw [if_neg (by rw [hf]; decide)] at hR
  clear hf
  have q4 : w3.cell? ⟨g, 4, none⟩ = some (.string ⟨#[]⟩) := HB3.out.2.1.cell_ rfl
  have f4 := HB3.out.2.1.frozen 4
  have hlt := HB3.out.2.1.lt
  obtain ⟨w5, hw5⟩ : ∃ W, w3.setCell ⟨g, 4, none⟩ (.string s2) = W := ⟨_, rfl⟩
  have HB5 := Lib.hid (show Blk w5 w.heap.size 31 #[.int .i64 0, .int .i64 0, .int .i64 0, .string ⟨#[]⟩, .string ⟨#[]⟩, .bool false, .int .i64 0, .int .i64 0, .int .i64 0, .int .i64 0, .int .i64 0, .int .i64 0, .int .i64 0] ∧ Blk w5 g 31 #[.int .i64 x, .int .i64 kd, .int .i64 sv, .string sn, .string s2, .bool false, .int .i64 0, .int .i64 0, .int .i64 0, .int .i64 0, .int .i64 0, .int .i64 0, .int .i64 0] ∧ Below w.heap.size w w5 ∧ w.heap.size < g from hw5 ▸ ⟨HB3.out.1.far (show w.heap.size ≠ g by have := HB3.out.2.2.2; omega) _, HB3.out.2.1.set_ 4 _, HB3.out.2.2.1.setCell (show w.heap.size ≤ g by have := HB3.out.2.2.2; omega) _, HB3.out.2.2.2⟩)
  go_upto_region 14 with fail
  try simp only [hw5]
  clear hw5 HB3 q4 f4 hlt k2
  rw [if_neg (by simp)] at hR
  go_wp2_with fail
  refine (HE.out _ _ HB5.out.2.2.1).mono ?_
  rintro e w6 ⟨⟨C, rfl, hC1, hC2, hC3⟩, hb⟩
  have HB6 := Lib.hid (show Blk w6 w.heap.size 31 #[.int .i64 0, .int .i64 0, .int .i64 0, .string ⟨#[]⟩, .string ⟨#[]⟩, .bool false, .int .i64 0, .int .i64 0, .int .i64 0, .int .i64 0, .int .i64 0, .int .i64 0, .int .i64 0] ∧ Blk w6 g 31 #[.int .i64 x, .int .i64 kd, .int .i64 sv, .string sn, .string s2, .bool false, .int .i64 0, .int .i64 0, .int .i64 0, .int .i64 0, .int .i64 0, .int .i64 0, .int .i64 0] ∧ Below w.heap.size w w6 ∧ w.heap.size < g from ⟨HB5.out.1.below hb HB5.out.1.lt, HB5.out.2.1.below hb HB5.out.2.1.lt, HB5.out.2.2.1.trans (hb.mono HB5.out.2.2.1.size), HB5.out.2.2.2⟩)
  clear hb HB5 HE
  generalize endR_ [s3.data.toList, s4.data.toList, s5.data.toList, s6.data.toList] = EE at *
  obtain ⟨⟨is, yr, mo, ⟨d1, d2, d3⟩, ⟨h1, h2⟩⟩, e3⟩ := EE
  by_cases hx : e3 ≠ 0
  · rw [if_pos hx] at hR
    have hx2 : (e3 != 0) = true := bne_iff_ne.2 hx
    have HR := Lib.hid hR
    have HC := Lib.hid (show (Tryz.prog.info? 29).map (·.size) = some C.size ∧ C.all (·.oneCell') = true ∧ C.size = 8 from ⟨by rw [hC1]; exact infoU, hC2, hC1⟩)
    clear hR hx hC1 hC2 hC3
    have HN := Lib.hid (Blk.new' w6 29 #[.bool false, .int .i64 0, .int .i64 0, .int .i64 0, .int .i64 0, .int .i64 0, .int .i64 0, .int .i64 0] rfl)
    go_upto_region 15 with (refine wpList_store_mid rfl 29 (.tmp 7) (.tmp 59) rfl w6.heap.size 0 C rfl rfl (HN.out.there (by rw [HC.out.2.2]; decide)) HC.out.1 HC.out.2.1 ?_)
    have HB7 := Lib.hid (show Blk ((w6.alloc (.cells #[.bool false, .int .i64 0, .int .i64 0, .int .i64 0, .int .i64 0, .int .i64 0, .int .i64 0, .int .i64 0] 29)).setCells w6.heap.size 0 C.toList) w.heap.size 31 #[.int .i64 0, .int .i64 0, .int .i64 0, .string ⟨#[]⟩, .string ⟨#[]⟩, .bool false, .int .i64 0, .int .i64 0, .int .i64 0, .int .i64 0, .int .i64 0, .int .i64 0, .int .i64 0] ∧ Below w.heap.size w ((w6.alloc (.cells #[.bool false, .int .i64 0, .int .i64 0, .int .i64 0, .int .i64 0, .int .i64 0, .int .i64 0, .int .i64 0] 29)).setCells w6.heap.size 0 C.toList) from ⟨Blk.farSets (HB6.out.1.alloc _) (by have := HB6.out.1.lt; omega) _ _, below_sets (HB6.out.2.2.1.size) _ _ _ (rbelow_alloc HB6.out.2.2.1 _)⟩)
    generalize (w6.alloc (.cells #[.bool false, .int .i64 0, .int .i64 0, .int .i64 0, .int .i64 0, .int .i64 0, .int .i64 0, .int .i64 0] 29)).setCells w6.heap.size 0 C.toList = w7 at *
    clear HN HB6
    have z0 : w7.cell? ⟨w.heap.size, 0, none⟩ = some (.int .i64 0) := HB7.out.1.cell_ rfl
    have y0 := HB7.out.1.frozen 0
    have z1 : w7.cell? ⟨w.heap.size, 1, none⟩ = some (.int .i64 0) := HB7.out.1.cell_ rfl
    have y1 := HB7.out.1.frozen 1
    have z2 : w7.cell? ⟨w.heap.size, 2, none⟩ = some (.int .i64 0) := HB7.out.1.cell_ rfl
    have y2 := HB7.out.1.frozen 2
    have z3 : w7.cell? ⟨w.heap.size, 3, none⟩ = some (.string ⟨#[]⟩) := HB7.out.1.cell_ rfl
    have y3 := HB7.out.1.frozen 3
    have z4 : w7.cell? ⟨w.heap.size, 4, none⟩ = some (.string ⟨#[]⟩) := HB7.out.1.cell_ rfl
    have y4 := HB7.out.1.frozen 4
    have z5 : w7.cell? ⟨w.heap.size, 5, none⟩ = some (.bool false) := HB7.out.1.cell_ rfl
    have y5 := HB7.out.1.frozen 5
    have z6 : w7.cell? ⟨w.heap.size, 6, none⟩ = some (.int .i64 0) := HB7.out.1.cell_ rfl
    have y6 := HB7.out.1.frozen 6
    have z7 : w7.cell? ⟨w.heap.size, 7, none⟩ = some (.int .i64 0) := HB7.out.1.cell_ rfl
    have y7 := HB7.out.1.frozen 7
    have z8 : w7.cell? ⟨w.heap.size, 8, none⟩ = some (.int .i64 0) := HB7.out.1.cell_ rfl
    have y8 := HB7.out.1.frozen 8
    have z9 : w7.cell? ⟨w.heap.size, 9, none⟩ = some (.int .i64 0) := HB7.out.1.cell_ rfl
    have y9 := HB7.out.1.frozen 9
    have z10 : w7.cell? ⟨w.heap.size, 10, none⟩ = some (.int .i64 0) := HB7.out.1.cell_ rfl
    have y10 := HB7.out.1.frozen 10
    have z11 : w7.cell? ⟨w.heap.size, 11, none⟩ = some (.int .i64 0) := HB7.out.1.cell_ rfl
    have y11 := HB7.out.1.frozen 11
    have z12 : w7.cell? ⟨w.heap.size, 12, none⟩ = some (.int .i64 0) := HB7.out.1.cell_ rfl
    have y12 := HB7.out.1.frozen 12
    have zlt := HB7.out.1.lt
    go_wp2_with fail
    exact bodyPost_ret (results_cell_tmp rfl _ _ w.heap.size 31 #[.int .i64 0, .int .i64 0, .int .i64 0, .string ⟨#[]⟩, .string ⟨#[]⟩, .bool false, .int .i64 0, .int .i64 0, .int .i64 0, .int .i64 0, .int .i64 0, .int .i64 0, .int .i64 0] _ _ rfl rfl ((HB7.out.1).setAll #[.int .i64 0, .int .i64 0, .int .i64 0, .string ⟨#[]⟩, .string ⟨#[]⟩, .bool false, .int .i64 0, .int .i64 0, .int .i64 0, .int .i64 0, .int .i64 0, .int .i64 0, .int .i64 0] rfl) Tryz.underlying31 rfl infoEra) rfl ⟨by rw [← HR.out]; rfl, below_sets (Nat.le_refl _) (#[.int .i64 0, .int .i64 0, .int .i64 0, .string ⟨#[]⟩, .string ⟨#[]⟩, .bool false, .int .i64 0, .int .i64 0, .int .i64 0, .int .i64 0, .int .i64 0, .int .i64 0, .int .i64 0] : Array Value).toList 0 _ HB7.out.2⟩
  rw [if_neg hx] at hR
  obtain rfl : e3 = 0 := by simpa using hx
  obtain rfl := hC3 rfl
  simp only [UntilP.arr]
  clear hC1 hC2 hC3 hx
  have q5 : w6.cell? ⟨g, 5, none⟩ = some (.bool false) := HB6.out.2.1.cell_ rfl
  have f5 := HB6.out.2.1.frozen 5
  have q6 : w6.cell? ⟨g, 6, none⟩ = some (.int .i64 0) := HB6.out.2.1.cell_ rfl
  have f6 := HB6.out.2.1.frozen 6
  have q7 : w6.cell? ⟨g, 7, none⟩ = some (.int .i64 0) := HB6.out.2.1.cell_ rfl
  have f7 := HB6.out.2.1.frozen 7
  have q8 : w6.cell? ⟨g, 8, none⟩ = some (.int .i64 0) := HB6.out.2.1.cell_ rfl
  have f8 := HB6.out.2.1.frozen 8
  have q9 : w6.cell? ⟨g, 9, none⟩ = some (.int .i64 0) := HB6.out.2.1.cell_ rfl
  have f9 := HB6.out.2.1.frozen 9
  have q10 : w6.cell? ⟨g, 10, none⟩ = some (.int .i64 0) := HB6.out.2.1.cell_ rfl
  have f10 := HB6.out.2.1.frozen 10
  have q11 : w6.cell? ⟨g, 11, none⟩ = some (.int .i64 0) := HB6.out.2.1.cell_ rfl
  have f11 := HB6.out.2.1.frozen 11
  have q12 : w6.cell? ⟨g, 12, none⟩ = some (.int .i64 0) := HB6.out.2.1.cell_ rfl
  have f12 := HB6.out.2.1.frozen 12
  have hlt := HB6.out.2.1.lt
  obtain ⟨w7, hw7⟩ : ∃ W, (((((((((w6.setCell ⟨g, 5, none⟩ (.bool is)).setCell ⟨g, 6, none⟩ (.int .i64 yr)).setCell ⟨g, 7, none⟩ (.int .i64 mo)).setCell ⟨g, 8, none⟩ (.int .i64 d1)).setCell ⟨g, 9, none⟩ (.int .i64 d2)).setCell ⟨g, 10, none⟩ (.int .i64 d3)).setCell ⟨g, 11, none⟩ (.int .i64 h1)).setCell ⟨g, 12, none⟩ (.int .i64 h2)).alloc (.cells #[.bool is, .int .i64 yr, .int .i64 mo, .int .i64 d1, .int .i64 d2, .int .i64 d3, .int .i64 h1, .int .i64 h2] 29)) = W := ⟨_, rfl⟩
  have HB7 := Lib.hid (show Blk w7 w.heap.size 31 #[.int .i64 0, .int .i64 0, .int .i64 0, .string ⟨#[]⟩, .string ⟨#[]⟩, .bool false, .int .i64 0, .int .i64 0, .int .i64 0, .int .i64 0, .int .i64 0, .int .i64 0, .int .i64 0] ∧ Blk w7 g 31 #[.int .i64 x, .int .i64 kd, .int .i64 sv, .string sn, .string s2, .bool is, .int .i64 yr, .int .i64 mo, .int .i64 d1, .int .i64 d2, .int .i64 d3, .int .i64 h1, .int .i64 h2] ∧ Below w.heap.size w w7 ∧ w.heap.size < g from by
    rw [← hw7]
    exact ⟨(Blk.farSets HB6.out.1 (show w.heap.size ≠ g by have := HB6.out.2.2.2; omega) [.bool is, .int .i64 yr, .int .i64 mo, .int .i64 d1, .int .i64 d2, .int .i64 d3, .int .i64 h1, .int .i64 h2] 5).alloc _, (Blk.setMid [.int .i64 x, .int .i64 kd, .int .i64 sv, .string sn, .string s2] [.bool false, .int .i64 0, .int .i64 0, .int .i64 0, .int .i64 0, .int .i64 0, .int .i64 0, .int .i64 0] [.bool is, .int .i64 yr, .int .i64 mo, .int .i64 d1, .int .i64 d2, .int .i64 d3, .int .i64 h1, .int .i64 h2] [] HB6.out.2.1 rfl).alloc _, rbelow_alloc (below_sets (show w.heap.size ≤ g by have := HB6.out.2.2.2; omega) [.bool is, .int .i64 yr, .int .i64 mo, .int .i64 d1, .int .i64 d2, .int .i64 d3, .int .i64 h1, .int .i64 h2] 5 _ HB6.out.2.2.1) _, HB6.out.2.2.2⟩)
  go_upto_region 18 with fail
  try simp only [hw7]
  clear hw7 HB6 q5 f5 q6 f6 q7 f7 q8 f8 q9 f9 q10 f10 q11 f11 q12 f12 hlt
  have HR := Lib.hid hR
  clear hR
  obtain ⟨C, hCC⟩ : ∃ C : Array Value, #[.int .i64 x, .int .i64 kd, .int .i64 sv, .string sn, .string s2, .bool is, .int .i64 yr, .int .i64 mo, .int .i64 d1, .int .i64 d2, .int .i64 d3, .int .i64 h1, .int .i64 h2] = C := ⟨_, rfl⟩
  have Hi := Lib.hid (show (Tryz.prog.info? 31).map (·.size) = some C.size ∧ C.all (·.oneCell') = true ∧ C.size = 13 from hCC ▸ ⟨infoEra, by simp [Value.oneCell'], rfl⟩)
  rw [hCC] at HB7
  have HCC := Lib.hid hCC
  clear hCC
  go_wp2_with (first
    | (refine wpList_load_row rfl 31 (.tmp 6) rfl g rfl 31 C (0, 0) _ HB7.out.2.1 Tryz.underlying31 rfl Hi.out.1 ?_)
    | (refine wpList_store_mid rfl 31 (.tmp 2) (.tmp 67) rfl (w.heap.size) 0 C rfl rfl (HB7.out.1.there (by rw [Hi.out.2.2]; decide)) Hi.out.1 Hi.out.2.1 ?_))
  refine bodyPost_ret (results_cell_tmp rfl _ _ (w.heap.size) 31 C _ _ rfl rfl (HB7.out.1.setAll C Hi.out.2.2) Tryz.underlying31 rfl Hi.out.1) rfl ⟨by rw [← HCC.out, ← HR.out]; simp [EraP.cells, UntilP.none], below_sets (Nat.le_refl _) _ _ _ HB7.out.2.2.1⟩

set_option maxHeartbeats 400000 in
theorem r11parse_bad (A : Option Addr) (n c : Nat) (ls : List (List UInt8)) (w : World) (hn : ls.length = n) (h : n < 3 ∨ 7 < n) (hm : n ≤ 1000000) :
    Calls Tryz.prog 12 #[.slice A n c] w fun e w' => e = .returned (.tuple #[.agg (eraR ls).1.cells, .int .i64 (eraR ls).2]) ∧ Below w.heap.size w w' := by
  rw [show eraR ls = (EraP.none, 5) from if_pos (by omega)]
  rcases (by omega : n < 3 ∨ (¬ n < 3 ∧ 7 < n)) with h1 | ⟨h1, h2⟩
  · have d1 : decide (n < 3) = true := decide_eq_true (by omega)
    have d2 : decide ((n : Int) < 3) = true := decide_eq_true (by omega)
    clear h hn
    go_enter Tryz.func12, Tryz.ntmps12
    go_wp2_with fail
    refine bodyPost_ret (by simp [results, Tryz.results12, go_sem]; rfl) rfl ⟨rfl, by go_grown⟩
  · have d1 : decide (n < 3) = false := decide_eq_false (by omega)
    have d2 : decide ((n : Int) < 3) = false := decide_eq_false (by omega)
    have d3 : decide (7 < n) = true := decide_eq_true (by omega)
    have d4 : decide (7 < (n : Int)) = true := decide_eq_true (by omega)
    clear h hn
    go_enter Tryz.func12, Tryz.ntmps12
    go_wp2_with fail
    refine bodyPost_ret (by simp [results, Tryz.results12, go_sem]; rfl) rfl ⟨rfl, by go_grown⟩
theorem r11parse_any (A : Option Addr) (n c : Nat) (ls : List (List UInt8)) (w : World) (hr : StrArg w A ls) (hn : ls.length = n) (hc : n ≤ c) (hl : ∀ l ∈ ls, l.length ≤ 1048576) (hm : n ≤ 1000000) :
    Calls Tryz.prog 12 #[.slice A n c] w fun e w' => e = .returned (.tuple #[.agg (eraR ls).1.cells, .int .i64 (eraR ls).2]) ∧ Below w.heap.size w w' := by
  by_cases h : n < 3 ∨ 7 < n
  · exact r11parse_bad A n c ls w hn h hm
  · obtain ⟨b, o, rfl, hrow⟩ := hr.row (by intro h0; subst h0; simp at hn; omega)
    rcases (by omega : n = 3 ∨ n = 4 ∨ n = 5 ∨ n = 6 ∨ n = 7) with rfl | rfl | rfl | rfl | rfl
    · obtain ⟨a0, a1, a2, rfl⟩ : ∃ a0 a1 a2, ls = [a0, a1, a2] := by
        match ls, hn with
        | [a0, a1, a2], _ => exact ⟨a0, a1, a2, rfl⟩
      obtain ⟨s0, rfl⟩ := asBa a0
      obtain ⟨s1, rfl⟩ := asBa a1
      obtain ⟨s2, rfl⟩ := asBa a2
      exact r11parse3 b o c s0 s1 s2 w hrow.lt hc (by have := hl s0.data.toList (by simp); simpa using this) (by have := hl s1.data.toList (by simp); simpa using this) (by have := hl s2.data.toList (by simp); simpa using this) hrow
    · obtain ⟨a0, a1, a2, a3, rfl⟩ : ∃ a0 a1 a2 a3, ls = [a0, a1, a2, a3] := by
        match ls, hn with
        | [a0, a1, a2, a3], _ => exact ⟨a0, a1, a2, a3, rfl⟩
      obtain ⟨s0, rfl⟩ := asBa a0
      obtain ⟨s1, rfl⟩ := asBa a1
      obtain ⟨s2, rfl⟩ := asBa a2
      obtain ⟨s3, rfl⟩ := asBa a3
      exact r11parse4 b o c s0 s1 s2 s3 w hrow.lt hc (by have := hl s0.data.toList (by simp); simpa using this) (by have := hl s1.data.toList (by simp); simpa using this) (by have := hl s2.data.toList (by simp); simpa using this) (by have := hl s3.data.toList (by simp); simpa using this) hrow
    · obtain ⟨a0, a1, a2, a3, a4, rfl⟩ : ∃ a0 a1 a2 a3 a4, ls = [a0, a1, a2, a3, a4] := by
        match ls, hn with
        | [a0, a1, a2, a3, a4], _ => exact ⟨a0, a1, a2, a3, a4, rfl⟩
      obtain ⟨s0, rfl⟩ := asBa a0
      obtain ⟨s1, rfl⟩ := asBa a1
      obtain ⟨s2, rfl⟩ := asBa a2
      obtain ⟨s3, rfl⟩ := asBa a3
      obtain ⟨s4, rfl⟩ := asBa a4
      exact r11parse5 b o c s0 s1 s2 s3 s4 w hrow.lt hc (by have := hl s0.data.toList (by simp); simpa using this) (by have := hl s1.data.toList (by simp); simpa using this) (by have := hl s2.data.toList (by simp); simpa using this) (by have := hl s3.data.toList (by simp); simpa using this) (by have := hl s4.data.toList (by simp); simpa using this) hrow
    · obtain ⟨a0, a1, a2, a3, a4, a5, rfl⟩ : ∃ a0 a1 a2 a3 a4 a5, ls = [a0, a1, a2, a3, a4, a5] := by
        match ls, hn with
        | [a0, a1, a2, a3, a4, a5], _ => exact ⟨a0, a1, a2, a3, a4, a5, rfl⟩
      obtain ⟨s0, rfl⟩ := asBa a0
      obtain ⟨s1, rfl⟩ := asBa a1
      obtain ⟨s2, rfl⟩ := asBa a2
      obtain ⟨s3, rfl⟩ := asBa a3
      obtain ⟨s4, rfl⟩ := asBa a4
      obtain ⟨s5, rfl⟩ := asBa a5
      exact r11parse6 b o c s0 s1 s2 s3 s4 s5 w hrow.lt hc (by have := hl s0.data.toList (by simp); simpa using this) (by have := hl s1.data.toList (by simp); simpa using this) (by have := hl s2.data.toList (by simp); simpa using this) (by have := hl s3.data.toList (by simp); simpa using this) (by have := hl s4.data.toList (by simp); simpa using this) (by have := hl s5.data.toList (by simp); simpa using this) hrow
    · obtain ⟨a0, a1, a2, a3, a4, a5, a6, rfl⟩ : ∃ a0 a1 a2 a3 a4 a5 a6, ls = [a0, a1, a2, a3, a4, a5, a6] := by
        match ls, hn with
        | [a0, a1, a2, a3, a4, a5, a6], _ => exact ⟨a0, a1, a2, a3, a4, a5, a6, rfl⟩
      obtain ⟨s0, rfl⟩ := asBa a0
      obtain ⟨s1, rfl⟩ := asBa a1
      obtain ⟨s2, rfl⟩ := asBa a2
      obtain ⟨s3, rfl⟩ := asBa a3
      obtain ⟨s4, rfl⟩ := asBa a4
      obtain ⟨s5, rfl⟩ := asBa a5
      obtain ⟨s6, rfl⟩ := asBa a6
      exact r11parse7 b o c s0 s1 s2 s3 s4 s5 s6 w hrow.lt hc (by have := hl s0.data.toList (by simp); simpa using this) (by have := hl s1.data.toList (by simp); simpa using this) (by have := hl s2.data.toList (by simp); simpa using this) (by have := hl s3.data.toList (by simp); simpa using this) (by have := hl s4.data.toList (by simp); simpa using this) (by have := hl s5.data.toList (by simp); simpa using this) (by have := hl s6.data.toList (by simp); simpa using this) hrow
end Go.Proofs.YtbdmieelokmhiaaGreatDoor
