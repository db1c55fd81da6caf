/-
  The law EralinePrints: what the call returns.
-/
import Derived.Test.YtbdmieelokmhiaaGreatDoorRefEraP
import Derived.Test.YtbdmieelokmhiaaGreatDoorEraWorks
set_option linter.unusedVariables false
namespace Go.Proofs.YtbdmieelokmhiaaGreatDoor
open Go.RowKit

set_option maxRecDepth 100000 in
set_option maxHeartbeats 1000000 in
theorem eprints_any (x : EraP) (w : World) (hT : ETabs w) (hM : MaxL w) :
    Calls Tryz.prog 4 #[.agg x.cells] w fun e w' => e = .returned (.bool true) ∧ Below w.heap.size w w' := by
  obtain ⟨off, kd, sv, set, fmt, ⟨is, y, m, ⟨d1, d2, d3⟩, ⟨h1, h2⟩⟩⟩ := x
  obtain ⟨sn, rfl⟩ := asBl set
  obtain ⟨sl, rfl⟩ := asBl fmt
  have HW := Lib.hid (show ∀ W, Below w.heap.size w W → Calls Tryz.prog 10 #[] W fun e w' => e = .returned (.bool true) ∧ Below W.heap.size W w' from fun W hW => eworks_any W (hT.below hW) (hM.below hW))
  have HB0 := Lib.hid (show ∀ o, Below w.heap.size w (w.alloc o) from fun o => (Below.refl _ _).alloc (Nat.le_refl _) o)
  have HT := Lib.hid (fun W (hW : Below w.heap.size w W) => hT.below hW)
  clear hT hM
  simp only [EraP.cells, ba_back]
  change Calls Tryz.prog 4 #[.agg #[.int .i64 off, .int .i64 kd, .int .i64 sv, .string sn, .string sl, .bool is, .int .i64 y, .int .i64 m, .int .i64 d1, .int .i64 d2, .int .i64 d3, .int .i64 h1, .int .i64 h2]] w _
  by_cases g1 : 100 < sn.size
  · go_enter Tryz.func4, Tryz.ntmps4
    go_wp2_with fail
    refine (HW.out _ (HB0.out _)).mono ?_
    rintro e w1 ⟨rfl, hb1⟩
    go_wp2_with fail
    go_ret
    exact ⟨rfl, (HB0.out _).trans (hb1.mono (HB0.out _).size)⟩
  by_cases g2 : 100 < sl.size
  · go_enter Tryz.func4, Tryz.ntmps4
    go_wp2_with fail
    refine (HW.out _ (HB0.out _)).mono ?_
    rintro e w1 ⟨rfl, hb1⟩
    go_wp2_with fail
    go_ret
    exact ⟨rfl, (HB0.out _).trans (hb1.mono (HB0.out _).size)⟩
  obtain ⟨P, hP⟩ : ∃ P, eraPrintR ⟨off, kd, sv, sn.data.toList, sl.data.toList, ⟨is, y, m, (d1, d2, d3), (h1, h2)⟩⟩ = P := ⟨_, rfl⟩
  have HPr := Lib.hid (show ∀ W, Below w.heap.size w W → Calls Tryz.prog 13 #[.agg #[.int .i64 off, .int .i64 kd, .int .i64 sv, .string sn, .string sl, .bool is, .int .i64 y, .int .i64 m, .int .i64 d1, .int .i64 d2, .int .i64 d3, .int .i64 h1, .int .i64 h2]] W fun e w' => e = .returned (.tuple #[.string ⟨P.1.toArray⟩, .int .i64 P.2]) ∧ Below W.heap.size W w' from fun W hW => by
    have h := eprint_any ⟨off, kd, sv, sn.data.toList, sl.data.toList, ⟨is, y, m, (d1, d2, d3), (h1, h2)⟩⟩ W (HT.out W hW) (by show sn.size ≤ _; omega) (by show sl.size ≤ _; omega)
    rw [hP] at h
    simpa only [EraP.cells, ba_back] using h)
  have HPx := Lib.hid (show ∀ W, Calls Tryz.prog 14 #[.agg #[.int .i64 off, .int .i64 kd, .int .i64 sv, .string sn, .string sl, .bool is, .int .i64 y, .int .i64 m, .int .i64 d1, .int .i64 d2, .int .i64 d3, .int .i64 h1, .int .i64 h2]] W fun e w' => e = .returned (.tuple #[.string ⟨P.1.toArray⟩, .int .i64 P.2]) ∧ Below W.heap.size W w' from fun W => by
    have h := r11print_any ⟨off, kd, sv, sn.data.toList, sl.data.toList, ⟨is, y, m, (d1, d2, d3), (h1, h2)⟩⟩ W (by show sn.size ≤ _; omega) (by show sl.size ≤ _; omega)
    rw [hP] at h
    simpa only [EraP.cells, ba_back] using h)
  clear hP HT
  obtain ⟨p1, p2⟩ := P
  simp only at HPr HPx
  generalize (⟨p1.toArray⟩ : ByteArray) = z at *
  go_enter Tryz.func4, Tryz.ntmps4
  go_upto_region 3 with fail
  have HG := Lib.hid (And.intro (Blk.new' w 31 #[.int .i64 off, .int .i64 kd, .int .i64 sv, .string sn, .string sl, .bool is, .int .i64 y, .int .i64 m, .int .i64 d1, .int .i64 d2, .int .i64 d3, .int .i64 h1, .int .i64 h2] rfl) (HB0.out (.cells #[.int .i64 off, .int .i64 kd, .int .i64 sv, .string sn, .string sl, .bool is, .int .i64 y, .int .i64 m, .int .i64 d1, .int .i64 d2, .int .i64 d3, .int .i64 h1, .int .i64 h2] 31)))
  generalize w.alloc (.cells #[.int .i64 off, .int .i64 kd, .int .i64 sv, .string sn, .string sl, .bool is, .int .i64 y, .int .i64 m, .int .i64 d1, .int .i64 d2, .int .i64 d3, .int .i64 h1, .int .i64 h2] 31) = w1 at *
  clear HB0
  go_wp2_with (first | (refine wpList_load_row rfl 31 (.tmp 1) rfl w.heap.size rfl 31 #[.int .i64 off, .int .i64 kd, .int .i64 sv, .string sn, .string sl, .bool is, .int .i64 y, .int .i64 m, .int .i64 d1, .int .i64 d2, .int .i64 d3, .int .i64 h1, .int .i64 h2] (0, 0) _ HG.out.1 Tryz.underlying31 rfl infoEra ?_) | fail)
  refine (HPr.out _ HG.out.2).mono ?_
  rintro e w2 ⟨rfl, hb2⟩
  have HG2 := Lib.hid (And.intro (HG.out.1.below hb2 HG.out.1.lt) (HG.out.2.trans (hb2.mono HG.out.2.size)))
  clear HG hb2 HPr
  go_wp2_with (first | (refine wpList_load_row rfl 31 (.tmp 1) rfl w.heap.size rfl 31 #[.int .i64 off, .int .i64 kd, .int .i64 sv, .string sn, .string sl, .bool is, .int .i64 y, .int .i64 m, .int .i64 d1, .int .i64 d2, .int .i64 d3, .int .i64 h1, .int .i64 h2] (0, 0) _ HG2.out.1 Tryz.underlying31 rfl infoEra ?_) | fail)
  refine (HPx.out _).mono ?_
  rintro e w3 ⟨rfl, hb3⟩
  have HG3 := Lib.hid (HG2.out.2.trans (hb3.mono HG2.out.2.size))
  clear HG2 hb3 HPx
  go_wp2_with fail
  refine (HW.out _ HG3.out).mono ?_
  rintro e w4 ⟨rfl, hb4⟩
  have HG4 := Lib.hid (HG3.out.trans (hb4.mono HG3.out.size))
  clear HG3 hb4
  go_wp2_with fail
  go_ret
  exact ⟨rfl, HG4.out⟩
end Go.Proofs.YtbdmieelokmhiaaGreatDoor
