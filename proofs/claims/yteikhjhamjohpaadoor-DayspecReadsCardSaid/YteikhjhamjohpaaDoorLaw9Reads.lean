/-
  DayspecReads: the walk.
-/
import Derived.Test.YteikhjhamjohpaaDoorRef9c
set_option linter.unusedVariables false
namespace Go.Proofs.YteikhjhamjohpaaDoor
open Go.RowKit

set_option maxRecDepth 100000 in
set_option maxHeartbeats 2000000 in
theorem reads_walk (s : ByteArray) (k wk d : Int) (hs : s.size ≤ maxLen) (w : World) (hT : Tabs w) :
    Calls Tryd.prog 3 #[.string s, .agg #[.int .i64 k, .int .i64 wk, .int .i64 d]] w fun e w' => e = .returned (.bool true) ∧ Below w.heap.size w w' := by
  unfold maxLen at hs
  have hB0 : Below w.heap.size w (w.alloc (.cells #[.int .i64 k, .int .i64 wk, .int .i64 d] 23)) := (Below.refl _ _).alloc (Nat.le_refl _) _
  have b0 : Blk (w.alloc (.cells #[.int .i64 k, .int .i64 wk, .int .i64 d] 23)) w.heap.size 23 #[.int .i64 k, .int .i64 wk, .int .i64 d] := Blk.new' _ _ _ rfl
  have HB0 := Lib.hid hB0
  have HK0 := Lib.hid b0
  clear hB0 b0
  by_cases h100 : 100 < s.size
  · have h1 : (100 : Int) < (s.size : Int) := by omega
    go_enter Tryd.func3, Tryd.ntmps3
    go_wp2_with fail
    refine (works_any _ (hT.below HB0.out)).mono ?_
    rintro e w1 ⟨rfl, hb1⟩
    go_wp2_with fail
    go_ret
    exact ⟨rfl, HB0.out.trans (hb1.mono HB0.out.size)⟩
  · have h1 : ¬ (100 : Int) < (s.size : Int) := by omega
    go_enter Tryd.func3, Tryd.ntmps3
    go_wp2_with fail
    refine (parse_any s (by omega) _ (hT.below HB0.out).weeks (hT.below HB0.out).folds).mono ?_
    rintro e w1 ⟨rfl, hb1⟩
    generalize hR : parseR s.data.toList = R
    have HR := Lib.hid hR
    clear hR
    obtain ⟨⟨a, b, c⟩, r⟩ := R
    unfold dayV
    have HK1 := Lib.hid (HK0.out.below hb1 HK0.out.lt)
    have HB1 := Lib.hid (HB0.out.trans (hb1.mono HB0.out.size))
    clear hb1 HK0 HB0
    go_wp2_with fail
    refine (rparse_any s (by omega) _).mono ?_
    rintro e w2 ⟨rfl, hb2⟩
    rw [HR.out]
    unfold dayV
    have HA2 := Lib.hid ((Blk.new' w1 23 #[.int .i64 a, .int .i64 b, .int .i64 c] rfl).below hb2 (by simp))
    have HK2 := Lib.hid ((HK1.out.alloc (.cells #[.int .i64 a, .int .i64 b, .int .i64 c] 23)).below hb2 (by have := HK1.out.lt; simp; omega))
    have HB2 := Lib.hid ((HB1.out.alloc HB1.out.size (.cells #[.int .i64 a, .int .i64 b, .int .i64 c] 23)).trans (hb2.mono (HB1.out.alloc HB1.out.size _).size))
    clear hb2 HK1 HB1
    have hz2 := HA2.out.lt
    have hz2' := HK2.out.lt
    obtain ⟨k0, k1, k2, _, _, _⟩ := HK2.out.three
    go_wp2_with fail
    have HB3 := Lib.hid (HB2.out.alloc HB2.out.size (.cells #[.int .i64 a, .int .i64 b, .int .i64 c] 23))
    refine (print_any k wk d _ (hT.below HB3.out).kinds (hT.below HB3.out).weeks).mono ?_
    rintro e w3 ⟨rfl, hb3⟩
    have HA3 := Lib.hid ((HA2.out.alloc (.cells #[.int .i64 a, .int .i64 b, .int .i64 c] 23)).below hb3 (by simp; omega))
    have HK3 := Lib.hid ((HK2.out.alloc (.cells #[.int .i64 a, .int .i64 b, .int .i64 c] 23)).below hb3 (by simp; omega))
    have HC3 := Lib.hid ((Blk.new' w2 23 #[.int .i64 a, .int .i64 b, .int .i64 c] rfl).below hb3 (by simp))
    have HB4 := Lib.hid (HB3.out.trans (hb3.mono HB3.out.size))
    generalize hP : printR k wk d = P at *
    have HP := Lib.hid hP
    clear hP
    obtain ⟨pt, pe⟩ := P
    clear hb3 HK2 HB2 HA2 HB3 k0 k1 k2
    obtain ⟨k0, k1, k2, _, _, _⟩ := HK3.out.three
    go_wp2_with fail
    refine (rprint_any k wk d _).mono ?_
    rintro e w4 ⟨rfl, hb4⟩
    rw [HP.out]
    have b5 := HA3.out.below hb4 HA3.out.lt
    have b7 := HC3.out.below hb4 HC3.out.lt
    have HB5 := Lib.hid (HB4.out.trans (hb4.mono HB4.out.size))
    clear hb4 HA3 HC3 HK3 HB4 k0 k1 k2
    obtain ⟨x0, x1, x2, _, _, _⟩ := b5.three
    obtain ⟨y0, y1, y2, _, _, _⟩ := b7.three
    clear b5 b7
    go_wp2_with fail
    refine (works_any _ (hT.below HB5.out)).mono ?_
    rintro e w5 ⟨rfl, hb5⟩
    have HB6 := Lib.hid (HB5.out.trans (hb5.mono HB5.out.size))
    clear hb5
    go_wp2_with fail
    go_ret
    exact ⟨rfl, HB6.out⟩
end Go.Proofs.YteikhjhamjohpaaDoor
