/-
  The law RulelinePrints: what the call returns.
-/
import Derived.Test.YtgfnnmdngckmmaaGreatDoorRef10p
import Derived.Test.YtgfnnmdngckmmaaGreatDoorRuleWorks
set_option linter.unusedVariables false
namespace Go.Proofs.YtgfnnmdngckmmaaGreatDoor
open Go.RowKit

set_option maxRecDepth 100000 in
set_option maxHeartbeats 1000000 in
theorem rprints_any (x : RuleP) (w : World) (hT : RTabs w) :
    Calls Tryz.prog 4 #[ruleV x] w fun e w' => e = .returned (.bool true) ∧ Below w.heap.size w w' := by
  obtain ⟨nm, fr, tl, mo, ⟨dk, dw, dd⟩, ⟨hs, hb⟩, sv, lt⟩ := x
  obtain ⟨sn, rfl⟩ : ∃ sn : ByteArray, nm = sn.data.toList := ⟨⟨nm.toArray⟩, by simp⟩
  obtain ⟨sl, rfl⟩ : ∃ sl : ByteArray, lt = sl.data.toList := ⟨⟨lt.toArray⟩, by simp⟩
  have HW := Lib.hid (show ∀ W, Below w.heap.size w W → Calls Tryz.prog 10 #[] W fun e w' => e = .returned (.bool true) ∧ Below W.heap.size W w' from fun W hW => rworks_any W (hT.below hW))
  have HB0 := Lib.hid (show ∀ o, Below w.heap.size w (w.alloc o) from fun o => (Below.refl _ _).alloc (Nat.le_refl _) o)
  have HT := Lib.hid (fun W (hW : Below w.heap.size w W) => hT.below hW)
  clear hT
  simp only [ruleV, RuleP.cells]
  change Calls Tryz.prog 4 #[.agg #[.string sn, .int .i64 fr, .int .i64 tl, .int .i64 mo, .int .i64 dk, .int .i64 dw, .int .i64 dd, .int .i64 hs, .int .i64 hb, .int .i64 sv, .string sl]] w _
  by_cases h1 : 100 < sn.size
  · go_enter Tryz.func4, Tryz.ntmps4
    go_wp2_with fail
    refine (HW.out _ (HB0.out _)).mono ?_
    rintro e w1 ⟨rfl, hb1⟩
    go_wp2_with fail
    go_ret
    exact ⟨rfl, (HB0.out _).trans (hb1.mono (HB0.out _).size)⟩
  by_cases h2 : 100 < sl.size
  · go_enter Tryz.func4, Tryz.ntmps4
    go_wp2_with fail
    refine (HW.out _ (HB0.out _)).mono ?_
    rintro e w1 ⟨rfl, hb1⟩
    go_wp2_with fail
    go_ret
    exact ⟨rfl, (HB0.out _).trans (hb1.mono (HB0.out _).size)⟩
  obtain ⟨P, hP⟩ : ∃ P, rulePrintR ⟨sn.data.toList, fr, tl, mo, ⟨dk, dw, dd⟩, ⟨hs, hb⟩, sv, sl.data.toList⟩ = P := ⟨_, rfl⟩
  have HPr := Lib.hid (show ∀ W, Below w.heap.size w W → Calls Tryz.prog 13 #[.agg #[.string sn, .int .i64 fr, .int .i64 tl, .int .i64 mo, .int .i64 dk, .int .i64 dw, .int .i64 dd, .int .i64 hs, .int .i64 hb, .int .i64 sv, .string sl]] W fun e w' => e = .returned (.tuple #[.string ⟨P.1.toArray⟩, .int .i64 P.2]) ∧ Below W.heap.size W w' from fun W hW => by
    have h := rulePrint_any ⟨sn.data.toList, fr, tl, mo, ⟨dk, dw, dd⟩, ⟨hs, hb⟩, sv, sl.data.toList⟩ W (HT.out W hW) (by show sn.size ≤ _; omega) (by show sl.size ≤ _; omega)
    rw [hP] at h
    exact h)
  have HPx := Lib.hid (show ∀ W, Calls Tryz.prog 14 #[.agg #[.string sn, .int .i64 fr, .int .i64 tl, .int .i64 mo, .int .i64 dk, .int .i64 dw, .int .i64 dd, .int .i64 hs, .int .i64 hb, .int .i64 sv, .string sl]] W fun e w' => e = .returned (.tuple #[.string ⟨P.1.toArray⟩, .int .i64 P.2]) ∧ Below W.heap.size W w' from fun W => by
    have h := r10print_any ⟨sn.data.toList, fr, tl, mo, ⟨dk, dw, dd⟩, ⟨hs, hb⟩, sv, sl.data.toList⟩ W (by show sn.size ≤ _; omega) (by show sl.size ≤ _; omega)
    rw [hP] at h
    exact h)
  clear hP HT
  obtain ⟨p1, p2⟩ := P
  simp only at HPr HPx
  generalize (⟨p1.toArray⟩ : ByteArray) = z at *
  go_enter Tryz.func4, Tryz.ntmps4
  go_upto_region 3 with fail
  have HG := Lib.hid (And.intro (Blk.new' w 29 #[.string sn, .int .i64 fr, .int .i64 tl, .int .i64 mo, .int .i64 dk, .int .i64 dw, .int .i64 dd, .int .i64 hs, .int .i64 hb, .int .i64 sv, .string sl] rfl) (HB0.out (.cells #[.string sn, .int .i64 fr, .int .i64 tl, .int .i64 mo, .int .i64 dk, .int .i64 dw, .int .i64 dd, .int .i64 hs, .int .i64 hb, .int .i64 sv, .string sl] 29)))
  generalize w.alloc (.cells #[.string sn, .int .i64 fr, .int .i64 tl, .int .i64 mo, .int .i64 dk, .int .i64 dw, .int .i64 dd, .int .i64 hs, .int .i64 hb, .int .i64 sv, .string sl] 29) = w1 at *
  clear HB0
  go_wp2_with (first | (refine wpList_load_row rfl 29 (.tmp 1) rfl w.heap.size rfl 29 #[.string sn, .int .i64 fr, .int .i64 tl, .int .i64 mo, .int .i64 dk, .int .i64 dw, .int .i64 dd, .int .i64 hs, .int .i64 hb, .int .i64 sv, .string sl] (0, 0) _ HG.out.1 Tryz.underlying29 rfl infoRule ?_) | fail)
  refine (HPr.out _ HG.out.2).mono ?_
  rintro e w2 ⟨rfl, hb2⟩
  have HG2 := Lib.hid (And.intro (HG.out.1.below hb2 HG.out.1.lt) (HG.out.2.trans (hb2.mono HG.out.2.size)))
  clear HG hb2 HPr
  go_wp2_with (first | (refine wpList_load_row rfl 29 (.tmp 1) rfl w.heap.size rfl 29 #[.string sn, .int .i64 fr, .int .i64 tl, .int .i64 mo, .int .i64 dk, .int .i64 dw, .int .i64 dd, .int .i64 hs, .int .i64 hb, .int .i64 sv, .string sl] (0, 0) _ HG2.out.1 Tryz.underlying29 rfl infoRule ?_) | fail)
  refine (HPx.out _).mono ?_
  rintro e w3 ⟨rfl, hb3⟩
  have HG3 := Lib.hid (HG2.out.2.trans (hb3.mono HG2.out.2.size))
  clear HG2 hb3 HPx
  go_wp2_with fail
  refine (HW.out _ HG3.out).mono ?_
  rintro e w4 ⟨rfl, hb4⟩
  have HG4 := Lib.hid (HG3.out.trans (hb4.mono HG3.out.size))
  clear HG3 hb4
  go_wp2_with fail
  go_ret
  exact ⟨rfl, HG4.out⟩
end Go.Proofs.YtgfnnmdngckmmaaGreatDoor
