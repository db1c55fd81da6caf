/-
  eraline.line: what it returns, or with what it panics.
-/
import Derived.Test.YtmcgbjjcpcgcfaaGreatDoorEraHead
import Derived.Test.YtmcgbjjcpcgcfaaGreatDoorRelAll
set_option linter.unusedVariables false
namespace Go.Proofs.YtmcgbjjcpcgcfaaGreatDoor
open Go.RowKit

/-- the walk of a region all of whose operations yield one value -/
def ExV (P : Program) (ops : Array Oper) (C : World → Prop) (fin : Act → World → Prop) : List Oper → Act → Prop
  | [], a => ∀ w, C w → fin a w
  | o :: l, a => ∃ v, (∀ w, C w → relOp P ops o a w fun u _ => u = v) ∧ ExV P ops C fin l (a.put o.dst v)
section
variable {P : Program} {ops : Array Oper} {C : World → Prop} {fin : Act → World → Prop}
theorem exV_of : ∀ (l : List Oper) (k : Nat) (U : List Value) (a : Act), ExV P ops C fin l a → ∃ ss, ss.length = l.length ∧ allLast ss ∧ relWalk P ops C fin l (ss.zip (List.replicate l.length [])) k [] U a
  | [], k, U, a, h => ⟨[], rfl, trivial, fun w hw _ _ => h w hw⟩
  | o :: l, k, U, a, ⟨v, h1, h2⟩ => by
    obtain ⟨ss, e1, e2, e3⟩ := exV_of l (k + 1) U _ h2
    exact ⟨.ex v :: ss, by simp [e1], ⟨trivial, e2⟩, fun w hC _ => h1 w hC, e3⟩
theorem wp_region_vals {id : Nat} {Q : Exit → Act → World → Prop} {a : Act} {w : World} {l : List Oper} (n : Nat) (C : World → Prop) (hm : P.follows .mixedOrders = true) (hB : relB l.toArray n (List.replicate n []) = true) (hn : (l.take n).length = n)
    (hC0 : C w.drew) (hC : ∀ w w', C w → Below w.heap.size w w' → C w')
    (h : ExV P l.toArray C (fun a' w' => wpList P l.toArray Q (l.drop n) a' w') (l.take n) a) : (Code.region id l.toArray true).wp P Q a w := by
  obtain ⟨ss, e1, e2, e3⟩ := exV_of _ 0 [] _ h
  rw [hn] at e1 e3
  exact wp_region_rel n (List.replicate n []) ss C hm hB (by simp) e1 hC0 hC e2 e3
theorem exV_ex {o : Oper} {l : List Oper} {v : Value} {a : Act} (hg : o.guard = none) (h1 : ∀ w, C w → relAt P o a w fun u _ => u = v) (h2 : ∀ K : Act → Prop, (∀ a', ExV P ops C fin l a' → K a') → K (a.put o.dst v)) : ExV P ops C fin (o :: l) a :=
  ⟨v, fun w hC => relOp_plain hg (h1 w hC), h2 _ fun _ h => h⟩
theorem exV_exg {o : Oper} {l : List Oper} {v : Value} {a : Act} (h1 : ∀ w, C w → relOp P ops o a w fun u _ => u = v) (h2 : ∀ K : Act → Prop, (∀ a', ExV P ops C fin l a' → K a') → K (a.put o.dst v)) : ExV P ops C fin (o :: l) a :=
  ⟨v, fun w hC => h1 w hC, h2 _ fun _ h => h⟩
theorem exV_end {a : Act} (h : ∀ w, C w → fin a w) : ExV P ops C fin [] a := h
end
theorem lq5 {w W : World} {off kd sv : Int} {sn sf : ByteArray} {is : Bool} {y m d1 d2 d3 h1 h2 : Int} (h : Blk W w.heap.size 55 #[.int .i64 off, .int .i64 kd, .int .i64 sv, .string sn, .string sf, .bool is, .int .i64 y, .int .i64 m, .int .i64 d1, .int .i64 d2, .int .i64 d3, .int .i64 h1, .int .i64 h2]) : W.cell? ⟨w.heap.size, 0, none⟩ = some (.int .i64 off) ∧ W.cell? ⟨w.heap.size, 1, none⟩ = some (.int .i64 kd) ∧ W.cell? ⟨w.heap.size, 2, none⟩ = some (.int .i64 sv) ∧ W.cell? ⟨w.heap.size, 3, none⟩ = some (.string sn) ∧ W.cell? ⟨w.heap.size, 4, none⟩ = some (.string sf) := ⟨h.cell_ rfl, h.cell_ rfl, h.cell_ rfl, h.cell_ rfl, h.cell_ rfl⟩
theorem lq13 {w W : World} {off kd sv : Int} {sn sf : ByteArray} {is : Bool} {y m d1 d2 d3 h1 h2 : Int} (h : Blk W w.heap.size 55 #[.int .i64 off, .int .i64 kd, .int .i64 sv, .string sn, .string sf, .bool is, .int .i64 y, .int .i64 m, .int .i64 d1, .int .i64 d2, .int .i64 d3, .int .i64 h1, .int .i64 h2]) : W.cell? ⟨w.heap.size, 0, none⟩ = some (.int .i64 off) ∧ W.cell? ⟨w.heap.size, 1, none⟩ = some (.int .i64 kd) ∧ W.cell? ⟨w.heap.size, 2, none⟩ = some (.int .i64 sv) ∧ W.cell? ⟨w.heap.size, 3, none⟩ = some (.string sn) ∧ W.cell? ⟨w.heap.size, 4, none⟩ = some (.string sf) ∧ W.cell? ⟨w.heap.size, 5, none⟩ = some (.bool is) ∧ W.cell? ⟨w.heap.size, 6, none⟩ = some (.int .i64 y) ∧ W.cell? ⟨w.heap.size, 7, none⟩ = some (.int .i64 m) ∧ W.cell? ⟨w.heap.size, 8, none⟩ = some (.int .i64 d1) ∧ W.cell? ⟨w.heap.size, 9, none⟩ = some (.int .i64 d2) ∧ W.cell? ⟨w.heap.size, 10, none⟩ = some (.int .i64 d3) ∧ W.cell? ⟨w.heap.size, 11, none⟩ = some (.int .i64 h1) ∧ W.cell? ⟨w.heap.size, 12, none⟩ = some (.int .i64 h2) := ⟨h.cell_ rfl, h.cell_ rfl, h.cell_ rfl, h.cell_ rfl, h.cell_ rfl, h.cell_ rfl, h.cell_ rfl, h.cell_ rfl, h.cell_ rfl, h.cell_ rfl, h.cell_ rfl, h.cell_ rfl, h.cell_ rfl⟩
set_option maxRecDepth 100000 in
set_option maxHeartbeats 1000000 in
theorem line_kneg (off kd sv : Int) (sn sf : ByteArray) (is : Bool) (y m d1 d2 d3 h1 h2 : Int) (w : World) (ao : ByteArray) (hk : decide (0 ≤ kd) = false)
    (HA : Hid (∀ W, Below w.heap.size w W → Calls Tryz.prog 96 #[.int .i64 off] W fun e w' => e = .returned (.string ao) ∧ Below W.heap.size W w')) :
    Calls Tryz.prog 64 #[.agg #[.int .i64 off, .int .i64 kd, .int .i64 sv, .string sn, .string sf, .bool is, .int .i64 y, .int .i64 m, .int .i64 d1, .int .i64 d2, .int .i64 d3, .int .i64 h1, .int .i64 h2]] w fun e w' => e = Fails 2 ∧ Below w.heap.size w w' := by
  have hB0 := (Below.refl w.heap.size w).alloc (Nat.le_refl _) (.cells #[.int .i64 off, .int .i64 kd, .int .i64 sv, .string sn, .string sf, .bool is, .int .i64 y, .int .i64 m, .int .i64 d1, .int .i64 d2, .int .i64 d3, .int .i64 h1, .int .i64 h2] 55)
  have HB0 := Lib.hid (And.intro (Blk.new' w 55 #[.int .i64 off, .int .i64 kd, .int .i64 sv, .string sn, .string sf, .bool is, .int .i64 y, .int .i64 m, .int .i64 d1, .int .i64 d2, .int .i64 d3, .int .i64 h1, .int .i64 h2] rfl) hB0)
  clear hB0
  go_enter Tryz.func64, Tryz.ntmps64
  go_wp2_with fail
  refine (HA.out _ HB0.out.2).mono ?_
  rintro e w1 ⟨rfl, hb1⟩
  have HB1 := Lib.hid (And.intro (HB0.out.1.below hb1 HB0.out.1.lt) (HB0.out.2.trans (hb1.mono HB0.out.2.size)))
  clear hb1 HB0 HA
  go_wp2_with fail
  refine wp_region_vals 42 (fun W => Blk W w.heap.size 55 #[.int .i64 off, .int .i64 kd, .int .i64 sv, .string sn, .string sf, .bool is, .int .i64 y, .int .i64 m, .int .i64 d1, .int .i64 d2, .int .i64 d3, .int .i64 h1, .int .i64 h2] ∧ Below w.heap.size w W) (by kernel_rfl) (by kernel_rfl) rfl (⟨HB1.out.1, HB1.out.2.drew⟩) (fun W W' h hb => ⟨h.1.below hb h.1.lt, h.2.trans (hb.mono h.2.size)⟩) ?_
  iterate 4
    apply exV_ex rfl ?_ (fun K hK => ?_)
    any_goals
      intro W hC
      obtain ⟨q0, q1, q2, q3, q4⟩ := lq5 hC.1
      go_simp
      all_goals exact ⟨Below.refl _ _, rfl⟩
    any_goals
      revert hK
      intro hK
      go_simp
      refine hK _ ?_
      clear hK K
  iterate 3
    apply exV_exg ?_ (fun K hK => ?_)
    any_goals
      intro W hC
      first | exact relOp_off rfl rfl rfl rfl | exact relOp_none rfl rfl rfl | skip
      all_goals
        refine relOp_on rfl rfl ?_
        obtain ⟨q0, q1, q2, q3, q4⟩ := lq5 hC.1
        go_simp
        all_goals exact ⟨Below.refl _ _, rfl⟩
    any_goals
      revert hK
      intro hK
      go_simp
      refine hK _ ?_
      clear hK K
  iterate 2
    apply exV_ex rfl ?_ (fun K hK => ?_)
    any_goals
      intro W hC
      obtain ⟨q0, q1, q2, q3, q4⟩ := lq5 hC.1
      go_simp
      all_goals exact ⟨Below.refl _ _, rfl⟩
    any_goals
      revert hK
      intro hK
      go_simp
      refine hK _ ?_
      clear hK K
  iterate 8
    apply exV_exg ?_ (fun K hK => ?_)
    any_goals
      intro W hC
      first | exact relOp_off rfl rfl rfl rfl | exact relOp_none rfl rfl rfl | skip
      all_goals
        refine relOp_on rfl rfl ?_
        obtain ⟨q0, q1, q2, q3, q4⟩ := lq5 hC.1
        go_simp
        all_goals exact ⟨Below.refl _ _, rfl⟩
    any_goals
      revert hK
      intro hK
      go_simp
      refine hK _ ?_
      clear hK K
  iterate 2
    apply exV_ex rfl ?_ (fun K hK => ?_)
    any_goals
      intro W hC
      obtain ⟨q0, q1, q2, q3, q4⟩ := lq5 hC.1
      go_simp
      all_goals exact ⟨Below.refl _ _, rfl⟩
    any_goals
      revert hK
      intro hK
      go_simp
      refine hK _ ?_
      clear hK K
  iterate 5
    apply exV_exg ?_ (fun K hK => ?_)
    any_goals
      intro W hC
      first | exact relOp_off rfl rfl rfl rfl | exact relOp_none rfl rfl rfl | skip
      all_goals
        refine relOp_on rfl rfl ?_
        obtain ⟨q0, q1, q2, q3, q4⟩ := lq5 hC.1
        go_simp
        all_goals exact ⟨Below.refl _ _, rfl⟩
    any_goals
      revert hK
      intro hK
      go_simp
      refine hK _ ?_
      clear hK K
  apply exV_exg ?_ (fun K hK => ?_)
  any_goals
    intro W hC
    first | exact relOp_off rfl rfl rfl rfl | exact relOp_none rfl rfl rfl | skip
    all_goals
      refine relOp_on rfl rfl ?_
      obtain ⟨q0, q1, q2, q3, q4⟩ := lq5 hC.1
      go_simp
      all_goals exact (HS.out W).mono fun e w' ⟨he, hb⟩ => ⟨he, hb⟩
  any_goals
    revert hK
    intro hK
    go_simp
    refine hK _ ?_
    clear hK K
  apply exV_exg ?_ (fun K hK => ?_)
  any_goals
    intro W hC
    first | exact relOp_off rfl rfl rfl rfl | exact relOp_none rfl rfl rfl | skip
    all_goals
      refine relOp_on rfl rfl ?_
      obtain ⟨q0, q1, q2, q3, q4⟩ := lq5 hC.1
      go_simp
      all_goals exact ⟨Below.refl _ _, rfl⟩
  any_goals
    revert hK
    intro hK
    go_simp
    refine hK _ ?_
    clear hK K
  iterate 2
    apply exV_ex rfl ?_ (fun K hK => ?_)
    any_goals
      intro W hC
      obtain ⟨q0, q1, q2, q3, q4⟩ := lq5 hC.1
      go_simp
      all_goals exact ⟨Below.refl _ _, rfl⟩
    any_goals
      revert hK
      intro hK
      go_simp
      refine hK _ ?_
      clear hK K
  iterate 8
    apply exV_exg ?_ (fun K hK => ?_)
    any_goals
      intro W hC
      first | exact relOp_off rfl rfl rfl rfl | exact relOp_none rfl rfl rfl | skip
      all_goals
        refine relOp_on rfl rfl ?_
        obtain ⟨q0, q1, q2, q3, q4⟩ := lq5 hC.1
        go_simp
        all_goals exact ⟨Below.refl _ _, rfl⟩
    any_goals
      revert hK
      intro hK
      go_simp
      refine hK _ ?_
      clear hK K
  iterate 2
    apply exV_ex rfl ?_ (fun K hK => ?_)
    any_goals
      intro W hC
      obtain ⟨q0, q1, q2, q3, q4⟩ := lq5 hC.1
      go_simp
      all_goals exact ⟨Below.refl _ _, rfl⟩
    any_goals
      revert hK
      intro hK
      go_simp
      refine hK _ ?_
      clear hK K
  iterate 2
    apply exV_exg ?_ (fun K hK => ?_)
    any_goals
      intro W hC
      first | exact relOp_off rfl rfl rfl rfl | exact relOp_none rfl rfl rfl | skip
      all_goals
        refine relOp_on rfl rfl ?_
        obtain ⟨q0, q1, q2, q3, q4⟩ := lq5 hC.1
        go_simp
        all_goals exact ⟨Below.refl _ _, rfl⟩
    any_goals
      revert hK
      intro hK
      go_simp
      refine hK _ ?_
      clear hK K
  apply exV_exg ?_ (fun K hK => ?_)
  any_goals
    intro W hC
    first | exact relOp_off rfl rfl rfl rfl | exact relOp_none rfl rfl rfl | skip
    all_goals
      refine relOp_on rfl rfl ?_
      obtain ⟨q0, q1, q2, q3, q4⟩ := lq5 hC.1
      go_simp
      all_goals exact (HF.out W).mono fun e w' ⟨he, hb⟩ => ⟨he, hb⟩
  any_goals
    revert hK
    intro hK
    go_simp
    refine hK _ ?_
    clear hK K
  apply exV_ex rfl ?_ (fun K hK => ?_)
  any_goals
    intro W hC
    obtain ⟨q0, q1, q2, q3, q4⟩ := lq5 hC.1
    go_simp
    all_goals exact ⟨Below.refl _ _, rfl⟩
  any_goals
    revert hK
    intro hK
    go_simp
    refine hK _ ?_
    clear hK K
  apply exV_end
  intro W hC
  clear HB1
  obtain ⟨hB, hBw⟩ := hC
  have HB2 := Lib.hid hBw
  clear hB hBw
  go_wp2_with fail
  refine (must_no _ _).mono ?_
  rintro e w3 ⟨rfl, rfl⟩
  exact ⟨rfl, rfl, HB2.out⟩

set_option maxRecDepth 100000 in
set_option maxHeartbeats 1000000 in
theorem line_kbig (off kd sv : Int) (sn sf : ByteArray) (is : Bool) (y m d1 d2 d3 h1 h2 : Int) (w : World) (ao : ByteArray) (hk : decide (0 ≤ kd) = true) (hk2 : decide (kd ≤ 2) = false)
    (HA : Hid (∀ W, Below w.heap.size w W → Calls Tryz.prog 96 #[.int .i64 off] W fun e w' => e = .returned (.string ao) ∧ Below W.heap.size W w')) :
    Calls Tryz.prog 64 #[.agg #[.int .i64 off, .int .i64 kd, .int .i64 sv, .string sn, .string sf, .bool is, .int .i64 y, .int .i64 m, .int .i64 d1, .int .i64 d2, .int .i64 d3, .int .i64 h1, .int .i64 h2]] w fun e w' => e = Fails 2 ∧ Below w.heap.size w w' := by
  have hB0 := (Below.refl w.heap.size w).alloc (Nat.le_refl _) (.cells #[.int .i64 off, .int .i64 kd, .int .i64 sv, .string sn, .string sf, .bool is, .int .i64 y, .int .i64 m, .int .i64 d1, .int .i64 d2, .int .i64 d3, .int .i64 h1, .int .i64 h2] 55)
  have HB0 := Lib.hid (And.intro (Blk.new' w 55 #[.int .i64 off, .int .i64 kd, .int .i64 sv, .string sn, .string sf, .bool is, .int .i64 y, .int .i64 m, .int .i64 d1, .int .i64 d2, .int .i64 d3, .int .i64 h1, .int .i64 h2] rfl) hB0)
  clear hB0
  go_enter Tryz.func64, Tryz.ntmps64
  go_wp2_with fail
  refine (HA.out _ HB0.out.2).mono ?_
  rintro e w1 ⟨rfl, hb1⟩
  have HB1 := Lib.hid (And.intro (HB0.out.1.below hb1 HB0.out.1.lt) (HB0.out.2.trans (hb1.mono HB0.out.2.size)))
  clear hb1 HB0 HA
  go_wp2_with fail
  refine wp_region_vals 42 (fun W => Blk W w.heap.size 55 #[.int .i64 off, .int .i64 kd, .int .i64 sv, .string sn, .string sf, .bool is, .int .i64 y, .int .i64 m, .int .i64 d1, .int .i64 d2, .int .i64 d3, .int .i64 h1, .int .i64 h2] ∧ Below w.heap.size w W) (by kernel_rfl) (by kernel_rfl) rfl (⟨HB1.out.1, HB1.out.2.drew⟩) (fun W W' h hb => ⟨h.1.below hb h.1.lt, h.2.trans (hb.mono h.2.size)⟩) ?_
  iterate 4
    apply exV_ex rfl ?_ (fun K hK => ?_)
    any_goals
      intro W hC
      obtain ⟨q0, q1, q2, q3, q4⟩ := lq5 hC.1
      go_simp
      all_goals exact ⟨Below.refl _ _, rfl⟩
    any_goals
      revert hK
      intro hK
      go_simp
      refine hK _ ?_
      clear hK K
  iterate 3
    apply exV_exg ?_ (fun K hK => ?_)
    any_goals
      intro W hC
      first | exact relOp_off rfl rfl rfl rfl | exact relOp_none rfl rfl rfl | skip
      all_goals
        refine relOp_on rfl rfl ?_
        obtain ⟨q0, q1, q2, q3, q4⟩ := lq5 hC.1
        go_simp
        all_goals exact ⟨Below.refl _ _, rfl⟩
    any_goals
      revert hK
      intro hK
      go_simp
      refine hK _ ?_
      clear hK K
  iterate 2
    apply exV_ex rfl ?_ (fun K hK => ?_)
    any_goals
      intro W hC
      obtain ⟨q0, q1, q2, q3, q4⟩ := lq5 hC.1
      go_simp
      all_goals exact ⟨Below.refl _ _, rfl⟩
    any_goals
      revert hK
      intro hK
      go_simp
      refine hK _ ?_
      clear hK K
  iterate 8
    apply exV_exg ?_ (fun K hK => ?_)
    any_goals
      intro W hC
      first | exact relOp_off rfl rfl rfl rfl | exact relOp_none rfl rfl rfl | skip
      all_goals
        refine relOp_on rfl rfl ?_
        obtain ⟨q0, q1, q2, q3, q4⟩ := lq5 hC.1
        go_simp
        all_goals exact ⟨Below.refl _ _, rfl⟩
    any_goals
      revert hK
      intro hK
      go_simp
      refine hK _ ?_
      clear hK K
  iterate 2
    apply exV_ex rfl ?_ (fun K hK => ?_)
    any_goals
      intro W hC
      obtain ⟨q0, q1, q2, q3, q4⟩ := lq5 hC.1
      go_simp
      all_goals exact ⟨Below.refl _ _, rfl⟩
    any_goals
      revert hK
      intro hK
      go_simp
      refine hK _ ?_
      clear hK K
  iterate 5
    apply exV_exg ?_ (fun K hK => ?_)
    any_goals
      intro W hC
      first | exact relOp_off rfl rfl rfl rfl | exact relOp_none rfl rfl rfl | skip
      all_goals
        refine relOp_on rfl rfl ?_
        obtain ⟨q0, q1, q2, q3, q4⟩ := lq5 hC.1
        go_simp
        all_goals exact ⟨Below.refl _ _, rfl⟩
    any_goals
      revert hK
      intro hK
      go_simp
      refine hK _ ?_
      clear hK K
  apply exV_exg ?_ (fun K hK => ?_)
  any_goals
    intro W hC
    first | exact relOp_off rfl rfl rfl rfl | exact relOp_none rfl rfl rfl | skip
    all_goals
      refine relOp_on rfl rfl ?_
      obtain ⟨q0, q1, q2, q3, q4⟩ := lq5 hC.1
      go_simp
      all_goals exact (HS.out W).mono fun e w' ⟨he, hb⟩ => ⟨he, hb⟩
  any_goals
    revert hK
    intro hK
    go_simp
    refine hK _ ?_
    clear hK K
  apply exV_exg ?_ (fun K hK => ?_)
  any_goals
    intro W hC
    first | exact relOp_off rfl rfl rfl rfl | exact relOp_none rfl rfl rfl | skip
    all_goals
      refine relOp_on rfl rfl ?_
      obtain ⟨q0, q1, q2, q3, q4⟩ := lq5 hC.1
      go_simp
      all_goals exact ⟨Below.refl _ _, rfl⟩
  any_goals
    revert hK
    intro hK
    go_simp
    refine hK _ ?_
    clear hK K
  iterate 2
    apply exV_ex rfl ?_ (fun K hK => ?_)
    any_goals
      intro W hC
      obtain ⟨q0, q1, q2, q3, q4⟩ := lq5 hC.1
      go_simp
      all_goals exact ⟨Below.refl _ _, rfl⟩
    any_goals
      revert hK
      intro hK
      go_simp
      refine hK _ ?_
      clear hK K
  iterate 8
    apply exV_exg ?_ (fun K hK => ?_)
    any_goals
      intro W hC
      first | exact relOp_off rfl rfl rfl rfl | exact relOp_none rfl rfl rfl | skip
      all_goals
        refine relOp_on rfl rfl ?_
        obtain ⟨q0, q1, q2, q3, q4⟩ := lq5 hC.1
        go_simp
        all_goals exact ⟨Below.refl _ _, rfl⟩
    any_goals
      revert hK
      intro hK
      go_simp
      refine hK _ ?_
      clear hK K
  iterate 2
    apply exV_ex rfl ?_ (fun K hK => ?_)
    any_goals
      intro W hC
      obtain ⟨q0, q1, q2, q3, q4⟩ := lq5 hC.1
      go_simp
      all_goals exact ⟨Below.refl _ _, rfl⟩
    any_goals
      revert hK
      intro hK
      go_simp
      refine hK _ ?_
      clear hK K
  iterate 2
    apply exV_exg ?_ (fun K hK => ?_)
    any_goals
      intro W hC
      first | exact relOp_off rfl rfl rfl rfl | exact relOp_none rfl rfl rfl | skip
      all_goals
        refine relOp_on rfl rfl ?_
        obtain ⟨q0, q1, q2, q3, q4⟩ := lq5 hC.1
        go_simp
        all_goals exact ⟨Below.refl _ _, rfl⟩
    any_goals
      revert hK
      intro hK
      go_simp
      refine hK _ ?_
      clear hK K
  apply exV_exg ?_ (fun K hK => ?_)
  any_goals
    intro W hC
    first | exact relOp_off rfl rfl rfl rfl | exact relOp_none rfl rfl rfl | skip
    all_goals
      refine relOp_on rfl rfl ?_
      obtain ⟨q0, q1, q2, q3, q4⟩ := lq5 hC.1
      go_simp
      all_goals exact (HF.out W).mono fun e w' ⟨he, hb⟩ => ⟨he, hb⟩
  any_goals
    revert hK
    intro hK
    go_simp
    refine hK _ ?_
    clear hK K
  apply exV_ex rfl ?_ (fun K hK => ?_)
  any_goals
    intro W hC
    obtain ⟨q0, q1, q2, q3, q4⟩ := lq5 hC.1
    go_simp
    all_goals exact ⟨Below.refl _ _, rfl⟩
  any_goals
    revert hK
    intro hK
    go_simp
    refine hK _ ?_
    clear hK K
  apply exV_end
  intro W hC
  clear HB1
  obtain ⟨hB, hBw⟩ := hC
  have HB2 := Lib.hid hBw
  clear hB hBw
  go_wp2_with fail
  refine (must_no _ _).mono ?_
  rintro e w3 ⟨rfl, rfl⟩
  exact ⟨rfl, rfl, HB2.out⟩

set_option maxRecDepth 100000 in
set_option maxHeartbeats 1000000 in
theorem line_save (off kd sv : Int) (sn sf : ByteArray) (is : Bool) (y m d1 d2 d3 h1 h2 : Int) (w : World) (ao : ByteArray) (hk : decide (0 ≤ kd) = true) (hk2 : decide (kd ≤ 2) = true) (ha : (kd == 1) = false) (hb : (sv == 0) = false)
    (HA : Hid (∀ W, Below w.heap.size w W → Calls Tryz.prog 96 #[.int .i64 off] W fun e w' => e = .returned (.string ao) ∧ Below W.heap.size W w')) :
    Calls Tryz.prog 64 #[.agg #[.int .i64 off, .int .i64 kd, .int .i64 sv, .string sn, .string sf, .bool is, .int .i64 y, .int .i64 m, .int .i64 d1, .int .i64 d2, .int .i64 d3, .int .i64 h1, .int .i64 h2]] w fun e w' => e = Fails 2 ∧ Below w.heap.size w w' := by
  have hB0 := (Below.refl w.heap.size w).alloc (Nat.le_refl _) (.cells #[.int .i64 off, .int .i64 kd, .int .i64 sv, .string sn, .string sf, .bool is, .int .i64 y, .int .i64 m, .int .i64 d1, .int .i64 d2, .int .i64 d3, .int .i64 h1, .int .i64 h2] 55)
  have HB0 := Lib.hid (And.intro (Blk.new' w 55 #[.int .i64 off, .int .i64 kd, .int .i64 sv, .string sn, .string sf, .bool is, .int .i64 y, .int .i64 m, .int .i64 d1, .int .i64 d2, .int .i64 d3, .int .i64 h1, .int .i64 h2] rfl) hB0)
  clear hB0
  go_enter Tryz.func64, Tryz.ntmps64
  go_wp2_with fail
  refine (HA.out _ HB0.out.2).mono ?_
  rintro e w1 ⟨rfl, hb1⟩
  have HB1 := Lib.hid (And.intro (HB0.out.1.below hb1 HB0.out.1.lt) (HB0.out.2.trans (hb1.mono HB0.out.2.size)))
  clear hb1 HB0 HA
  go_wp2_with fail
  refine wp_region_vals 42 (fun W => Blk W w.heap.size 55 #[.int .i64 off, .int .i64 kd, .int .i64 sv, .string sn, .string sf, .bool is, .int .i64 y, .int .i64 m, .int .i64 d1, .int .i64 d2, .int .i64 d3, .int .i64 h1, .int .i64 h2] ∧ Below w.heap.size w W) (by kernel_rfl) (by kernel_rfl) rfl (⟨HB1.out.1, HB1.out.2.drew⟩) (fun W W' h hb => ⟨h.1.below hb h.1.lt, h.2.trans (hb.mono h.2.size)⟩) ?_
  iterate 4
    apply exV_ex rfl ?_ (fun K hK => ?_)
    any_goals
      intro W hC
      obtain ⟨q0, q1, q2, q3, q4⟩ := lq5 hC.1
      go_simp
      all_goals exact ⟨Below.refl _ _, rfl⟩
    any_goals
      revert hK
      intro hK
      go_simp
      refine hK _ ?_
      clear hK K
  iterate 3
    apply exV_exg ?_ (fun K hK => ?_)
    any_goals
      intro W hC
      first | exact relOp_off rfl rfl rfl rfl | exact relOp_none rfl rfl rfl | skip
      all_goals
        refine relOp_on rfl rfl ?_
        obtain ⟨q0, q1, q2, q3, q4⟩ := lq5 hC.1
        go_simp
        all_goals exact ⟨Below.refl _ _, rfl⟩
    any_goals
      revert hK
      intro hK
      go_simp
      refine hK _ ?_
      clear hK K
  iterate 2
    apply exV_ex rfl ?_ (fun K hK => ?_)
    any_goals
      intro W hC
      obtain ⟨q0, q1, q2, q3, q4⟩ := lq5 hC.1
      go_simp
      all_goals exact ⟨Below.refl _ _, rfl⟩
    any_goals
      revert hK
      intro hK
      go_simp
      refine hK _ ?_
      clear hK K
  iterate 8
    apply exV_exg ?_ (fun K hK => ?_)
    any_goals
      intro W hC
      first | exact relOp_off rfl rfl rfl rfl | exact relOp_none rfl rfl rfl | skip
      all_goals
        refine relOp_on rfl rfl ?_
        obtain ⟨q0, q1, q2, q3, q4⟩ := lq5 hC.1
        go_simp
        all_goals exact ⟨Below.refl _ _, rfl⟩
    any_goals
      revert hK
      intro hK
      go_simp
      refine hK _ ?_
      clear hK K
  iterate 2
    apply exV_ex rfl ?_ (fun K hK => ?_)
    any_goals
      intro W hC
      obtain ⟨q0, q1, q2, q3, q4⟩ := lq5 hC.1
      go_simp
      all_goals exact ⟨Below.refl _ _, rfl⟩
    any_goals
      revert hK
      intro hK
      go_simp
      refine hK _ ?_
      clear hK K
  iterate 5
    apply exV_exg ?_ (fun K hK => ?_)
    any_goals
      intro W hC
      first | exact relOp_off rfl rfl rfl rfl | exact relOp_none rfl rfl rfl | skip
      all_goals
        refine relOp_on rfl rfl ?_
        obtain ⟨q0, q1, q2, q3, q4⟩ := lq5 hC.1
        go_simp
        all_goals exact ⟨Below.refl _ _, rfl⟩
    any_goals
      revert hK
      intro hK
      go_simp
      refine hK _ ?_
      clear hK K
  apply exV_exg ?_ (fun K hK => ?_)
  any_goals
    intro W hC
    first | exact relOp_off rfl rfl rfl rfl | exact relOp_none rfl rfl rfl | skip
    all_goals
      refine relOp_on rfl rfl ?_
      obtain ⟨q0, q1, q2, q3, q4⟩ := lq5 hC.1
      go_simp
      all_goals exact (HS.out W).mono fun e w' ⟨he, hb⟩ => ⟨he, hb⟩
  any_goals
    revert hK
    intro hK
    go_simp
    refine hK _ ?_
    clear hK K
  apply exV_exg ?_ (fun K hK => ?_)
  any_goals
    intro W hC
    first | exact relOp_off rfl rfl rfl rfl | exact relOp_none rfl rfl rfl | skip
    all_goals
      refine relOp_on rfl rfl ?_
      obtain ⟨q0, q1, q2, q3, q4⟩ := lq5 hC.1
      go_simp
      all_goals exact ⟨Below.refl _ _, rfl⟩
  any_goals
    revert hK
    intro hK
    go_simp
    refine hK _ ?_
    clear hK K
  iterate 2
    apply exV_ex rfl ?_ (fun K hK => ?_)
    any_goals
      intro W hC
      obtain ⟨q0, q1, q2, q3, q4⟩ := lq5 hC.1
      go_simp
      all_goals exact ⟨Below.refl _ _, rfl⟩
    any_goals
      revert hK
      intro hK
      go_simp
      refine hK _ ?_
      clear hK K
  iterate 8
    apply exV_exg ?_ (fun K hK => ?_)
    any_goals
      intro W hC
      first | exact relOp_off rfl rfl rfl rfl | exact relOp_none rfl rfl rfl | skip
      all_goals
        refine relOp_on rfl rfl ?_
        obtain ⟨q0, q1, q2, q3, q4⟩ := lq5 hC.1
        go_simp
        all_goals exact ⟨Below.refl _ _, rfl⟩
    any_goals
      revert hK
      intro hK
      go_simp
      refine hK _ ?_
      clear hK K
  iterate 2
    apply exV_ex rfl ?_ (fun K hK => ?_)
    any_goals
      intro W hC
      obtain ⟨q0, q1, q2, q3, q4⟩ := lq5 hC.1
      go_simp
      all_goals exact ⟨Below.refl _ _, rfl⟩
    any_goals
      revert hK
      intro hK
      go_simp
      refine hK _ ?_
      clear hK K
  iterate 2
    apply exV_exg ?_ (fun K hK => ?_)
    any_goals
      intro W hC
      first | exact relOp_off rfl rfl rfl rfl | exact relOp_none rfl rfl rfl | skip
      all_goals
        refine relOp_on rfl rfl ?_
        obtain ⟨q0, q1, q2, q3, q4⟩ := lq5 hC.1
        go_simp
        all_goals exact ⟨Below.refl _ _, rfl⟩
    any_goals
      revert hK
      intro hK
      go_simp
      refine hK _ ?_
      clear hK K
  apply exV_exg ?_ (fun K hK => ?_)
  any_goals
    intro W hC
    first | exact relOp_off rfl rfl rfl rfl | exact relOp_none rfl rfl rfl | skip
    all_goals
      refine relOp_on rfl rfl ?_
      obtain ⟨q0, q1, q2, q3, q4⟩ := lq5 hC.1
      go_simp
      all_goals exact (HF.out W).mono fun e w' ⟨he, hb⟩ => ⟨he, hb⟩
  any_goals
    revert hK
    intro hK
    go_simp
    refine hK _ ?_
    clear hK K
  apply exV_ex rfl ?_ (fun K hK => ?_)
  any_goals
    intro W hC
    obtain ⟨q0, q1, q2, q3, q4⟩ := lq5 hC.1
    go_simp
    all_goals exact ⟨Below.refl _ _, rfl⟩
  any_goals
    revert hK
    intro hK
    go_simp
    refine hK _ ?_
    clear hK K
  apply exV_end
  intro W hC
  clear HB1
  obtain ⟨hB, hBw⟩ := hC
  have HB2 := Lib.hid hBw
  clear hB hBw
  go_wp2_with fail
  refine (must_no _ _).mono ?_
  rintro e w3 ⟨rfl, rfl⟩
  exact ⟨rfl, rfl, HB2.out⟩

set_option maxRecDepth 100000 in
set_option maxHeartbeats 1000000 in
theorem line_set_t1 (off kd sv : Int) (sn sf : ByteArray) (is : Bool) (y m d1 d2 d3 h1 h2 : Int) (w : World) (ao : ByteArray) (hk : decide (0 ≤ kd) = true) (hk2 : decide (kd ≤ 2) = true) (ha : (kd == 1) = true) (hc : (kd == 2) = false) (HS : Hid (∀ W, Calls Tryz.prog 55 #[.string sn] W fun e w' => e = .returned (.bool true) ∧ Below W.heap.size W w'))
    (HA : Hid (∀ W, Below w.heap.size w W → Calls Tryz.prog 96 #[.int .i64 off] W fun e w' => e = .returned (.string ao) ∧ Below W.heap.size W w')) :
    Calls Tryz.prog 64 #[.agg #[.int .i64 off, .int .i64 kd, .int .i64 sv, .string sn, .string sf, .bool is, .int .i64 y, .int .i64 m, .int .i64 d1, .int .i64 d2, .int .i64 d3, .int .i64 h1, .int .i64 h2]] w fun e w' => e = Fails 2 ∧ Below w.heap.size w w' := by
  have hB0 := (Below.refl w.heap.size w).alloc (Nat.le_refl _) (.cells #[.int .i64 off, .int .i64 kd, .int .i64 sv, .string sn, .string sf, .bool is, .int .i64 y, .int .i64 m, .int .i64 d1, .int .i64 d2, .int .i64 d3, .int .i64 h1, .int .i64 h2] 55)
  have HB0 := Lib.hid (And.intro (Blk.new' w 55 #[.int .i64 off, .int .i64 kd, .int .i64 sv, .string sn, .string sf, .bool is, .int .i64 y, .int .i64 m, .int .i64 d1, .int .i64 d2, .int .i64 d3, .int .i64 h1, .int .i64 h2] rfl) hB0)
  clear hB0
  go_enter Tryz.func64, Tryz.ntmps64
  go_wp2_with fail
  refine (HA.out _ HB0.out.2).mono ?_
  rintro e w1 ⟨rfl, hb1⟩
  have HB1 := Lib.hid (And.intro (HB0.out.1.below hb1 HB0.out.1.lt) (HB0.out.2.trans (hb1.mono HB0.out.2.size)))
  clear hb1 HB0 HA
  go_wp2_with fail
  refine wp_region_vals 42 (fun W => Blk W w.heap.size 55 #[.int .i64 off, .int .i64 kd, .int .i64 sv, .string sn, .string sf, .bool is, .int .i64 y, .int .i64 m, .int .i64 d1, .int .i64 d2, .int .i64 d3, .int .i64 h1, .int .i64 h2] ∧ Below w.heap.size w W) (by kernel_rfl) (by kernel_rfl) rfl (⟨HB1.out.1, HB1.out.2.drew⟩) (fun W W' h hb => ⟨h.1.below hb h.1.lt, h.2.trans (hb.mono h.2.size)⟩) ?_
  iterate 4
    apply exV_ex rfl ?_ (fun K hK => ?_)
    any_goals
      intro W hC
      obtain ⟨q0, q1, q2, q3, q4⟩ := lq5 hC.1
      go_simp
      all_goals exact ⟨Below.refl _ _, rfl⟩
    any_goals
      revert hK
      intro hK
      go_simp
      refine hK _ ?_
      clear hK K
  iterate 3
    apply exV_exg ?_ (fun K hK => ?_)
    any_goals
      intro W hC
      first | exact relOp_off rfl rfl rfl rfl | exact relOp_none rfl rfl rfl | skip
      all_goals
        refine relOp_on rfl rfl ?_
        obtain ⟨q0, q1, q2, q3, q4⟩ := lq5 hC.1
        go_simp
        all_goals exact ⟨Below.refl _ _, rfl⟩
    any_goals
      revert hK
      intro hK
      go_simp
      refine hK _ ?_
      clear hK K
  iterate 2
    apply exV_ex rfl ?_ (fun K hK => ?_)
    any_goals
      intro W hC
      obtain ⟨q0, q1, q2, q3, q4⟩ := lq5 hC.1
      go_simp
      all_goals exact ⟨Below.refl _ _, rfl⟩
    any_goals
      revert hK
      intro hK
      go_simp
      refine hK _ ?_
      clear hK K
  iterate 8
    apply exV_exg ?_ (fun K hK => ?_)
    any_goals
      intro W hC
      first | exact relOp_off rfl rfl rfl rfl | exact relOp_none rfl rfl rfl | skip
      all_goals
        refine relOp_on rfl rfl ?_
        obtain ⟨q0, q1, q2, q3, q4⟩ := lq5 hC.1
        go_simp
        all_goals exact ⟨Below.refl _ _, rfl⟩
    any_goals
      revert hK
      intro hK
      go_simp
      refine hK _ ?_
      clear hK K
  iterate 2
    apply exV_ex rfl ?_ (fun K hK => ?_)
    any_goals
      intro W hC
      obtain ⟨q0, q1, q2, q3, q4⟩ := lq5 hC.1
      go_simp
      all_goals exact ⟨Below.refl _ _, rfl⟩
    any_goals
      revert hK
      intro hK
      go_simp
      refine hK _ ?_
      clear hK K
  iterate 5
    apply exV_exg ?_ (fun K hK => ?_)
    any_goals
      intro W hC
      first | exact relOp_off rfl rfl rfl rfl | exact relOp_none rfl rfl rfl | skip
      all_goals
        refine relOp_on rfl rfl ?_
        obtain ⟨q0, q1, q2, q3, q4⟩ := lq5 hC.1
        go_simp
        all_goals exact ⟨Below.refl _ _, rfl⟩
    any_goals
      revert hK
      intro hK
      go_simp
      refine hK _ ?_
      clear hK K
  apply exV_exg ?_ (fun K hK => ?_)
  any_goals
    intro W hC
    first | exact relOp_off rfl rfl rfl rfl | exact relOp_none rfl rfl rfl | skip
    all_goals
      refine relOp_on rfl rfl ?_
      obtain ⟨q0, q1, q2, q3, q4⟩ := lq5 hC.1
      go_simp
      all_goals exact (HS.out W).mono fun e w' ⟨he, hb⟩ => ⟨he, hb⟩
  any_goals
    revert hK
    intro hK
    go_simp
    refine hK _ ?_
    clear hK K
  apply exV_exg ?_ (fun K hK => ?_)
  any_goals
    intro W hC
    first | exact relOp_off rfl rfl rfl rfl | exact relOp_none rfl rfl rfl | skip
    all_goals
      refine relOp_on rfl rfl ?_
      obtain ⟨q0, q1, q2, q3, q4⟩ := lq5 hC.1
      go_simp
      all_goals exact ⟨Below.refl _ _, rfl⟩
  any_goals
    revert hK
    intro hK
    go_simp
    refine hK _ ?_
    clear hK K
  iterate 2
    apply exV_ex rfl ?_ (fun K hK => ?_)
    any_goals
      intro W hC
      obtain ⟨q0, q1, q2, q3, q4⟩ := lq5 hC.1
      go_simp
      all_goals exact ⟨Below.refl _ _, rfl⟩
    any_goals
      revert hK
      intro hK
      go_simp
      refine hK _ ?_
      clear hK K
  iterate 8
    apply exV_exg ?_ (fun K hK => ?_)
    any_goals
      intro W hC
      first | exact relOp_off rfl rfl rfl rfl | exact relOp_none rfl rfl rfl | skip
      all_goals
        refine relOp_on rfl rfl ?_
        obtain ⟨q0, q1, q2, q3, q4⟩ := lq5 hC.1
        go_simp
        all_goals exact ⟨Below.refl _ _, rfl⟩
    any_goals
      revert hK
      intro hK
      go_simp
      refine hK _ ?_
      clear hK K
  iterate 2
    apply exV_ex rfl ?_ (fun K hK => ?_)
    any_goals
      intro W hC
      obtain ⟨q0, q1, q2, q3, q4⟩ := lq5 hC.1
      go_simp
      all_goals exact ⟨Below.refl _ _, rfl⟩
    any_goals
      revert hK
      intro hK
      go_simp
      refine hK _ ?_
      clear hK K
  iterate 2
    apply exV_exg ?_ (fun K hK => ?_)
    any_goals
      intro W hC
      first | exact relOp_off rfl rfl rfl rfl | exact relOp_none rfl rfl rfl | skip
      all_goals
        refine relOp_on rfl rfl ?_
        obtain ⟨q0, q1, q2, q3, q4⟩ := lq5 hC.1
        go_simp
        all_goals exact ⟨Below.refl _ _, rfl⟩
    any_goals
      revert hK
      intro hK
      go_simp
      refine hK _ ?_
      clear hK K
  apply exV_exg ?_ (fun K hK => ?_)
  any_goals
    intro W hC
    first | exact relOp_off rfl rfl rfl rfl | exact relOp_none rfl rfl rfl | skip
    all_goals
      refine relOp_on rfl rfl ?_
      obtain ⟨q0, q1, q2, q3, q4⟩ := lq5 hC.1
      go_simp
      all_goals exact (HF.out W).mono fun e w' ⟨he, hb⟩ => ⟨he, hb⟩
  any_goals
    revert hK
    intro hK
    go_simp
    refine hK _ ?_
    clear hK K
  apply exV_ex rfl ?_ (fun K hK => ?_)
  any_goals
    intro W hC
    obtain ⟨q0, q1, q2, q3, q4⟩ := lq5 hC.1
    go_simp
    all_goals exact ⟨Below.refl _ _, rfl⟩
  any_goals
    revert hK
    intro hK
    go_simp
    refine hK _ ?_
    clear hK K
  apply exV_end
  intro W hC
  clear HB1
  obtain ⟨hB, hBw⟩ := hC
  have HB2 := Lib.hid hBw
  clear hB hBw
  go_wp2_with fail
  refine (must_no _ _).mono ?_
  rintro e w3 ⟨rfl, rfl⟩
  exact ⟨rfl, rfl, HB2.out⟩

set_option maxRecDepth 100000 in
set_option maxHeartbeats 1000000 in
theorem line_rest1 (off kd sv : Int) (sn sf : ByteArray) (is : Bool) (y m d1 d2 d3 h1 h2 : Int) (w : World) (ao : ByteArray) (hk : decide (0 ≤ kd) = true) (hk2 : decide (kd ≤ 2) = true) (ha : (kd == 1) = true) (hc : (kd == 2) = false) (hne : sn.toList.isEmpty = false) (hne2 : (sn.toList == []) = false) (HS : Hid (∀ W, Calls Tryz.prog 55 #[.string sn] W fun e w' => e = .returned (.bool false) ∧ Below W.heap.size W w'))
    (HA : Hid (∀ W, Below w.heap.size w W → Calls Tryz.prog 96 #[.int .i64 off] W fun e w' => e = .returned (.string ao) ∧ Below W.heap.size W w')) :
    Calls Tryz.prog 64 #[.agg #[.int .i64 off, .int .i64 kd, .int .i64 sv, .string sn, .string sf, .bool is, .int .i64 y, .int .i64 m, .int .i64 d1, .int .i64 d2, .int .i64 d3, .int .i64 h1, .int .i64 h2]] w fun e w' => e = Fails 2 ∧ Below w.heap.size w w' := by
  have hB0 := (Below.refl w.heap.size w).alloc (Nat.le_refl _) (.cells #[.int .i64 off, .int .i64 kd, .int .i64 sv, .string sn, .string sf, .bool is, .int .i64 y, .int .i64 m, .int .i64 d1, .int .i64 d2, .int .i64 d3, .int .i64 h1, .int .i64 h2] 55)
  have HB0 := Lib.hid (And.intro (Blk.new' w 55 #[.int .i64 off, .int .i64 kd, .int .i64 sv, .string sn, .string sf, .bool is, .int .i64 y, .int .i64 m, .int .i64 d1, .int .i64 d2, .int .i64 d3, .int .i64 h1, .int .i64 h2] rfl) hB0)
  clear hB0
  go_enter Tryz.func64, Tryz.ntmps64
  go_wp2_with fail
  refine (HA.out _ HB0.out.2).mono ?_
  rintro e w1 ⟨rfl, hb1⟩
  have HB1 := Lib.hid (And.intro (HB0.out.1.below hb1 HB0.out.1.lt) (HB0.out.2.trans (hb1.mono HB0.out.2.size)))
  clear hb1 HB0 HA
  go_wp2_with fail
  refine wp_region_vals 42 (fun W => Blk W w.heap.size 55 #[.int .i64 off, .int .i64 kd, .int .i64 sv, .string sn, .string sf, .bool is, .int .i64 y, .int .i64 m, .int .i64 d1, .int .i64 d2, .int .i64 d3, .int .i64 h1, .int .i64 h2] ∧ Below w.heap.size w W) (by kernel_rfl) (by kernel_rfl) rfl (⟨HB1.out.1, HB1.out.2.drew⟩) (fun W W' h hb => ⟨h.1.below hb h.1.lt, h.2.trans (hb.mono h.2.size)⟩) ?_
  iterate 4
    apply exV_ex rfl ?_ (fun K hK => ?_)
    any_goals
      intro W hC
      obtain ⟨q0, q1, q2, q3, q4⟩ := lq5 hC.1
      go_simp
      all_goals exact ⟨Below.refl _ _, rfl⟩
    any_goals
      revert hK
      intro hK
      go_simp
      refine hK _ ?_
      clear hK K
  iterate 3
    apply exV_exg ?_ (fun K hK => ?_)
    any_goals
      intro W hC
      first | exact relOp_off rfl rfl rfl rfl | exact relOp_none rfl rfl rfl | skip
      all_goals
        refine relOp_on rfl rfl ?_
        obtain ⟨q0, q1, q2, q3, q4⟩ := lq5 hC.1
        go_simp
        all_goals exact ⟨Below.refl _ _, rfl⟩
    any_goals
      revert hK
      intro hK
      go_simp
      refine hK _ ?_
      clear hK K
  iterate 2
    apply exV_ex rfl ?_ (fun K hK => ?_)
    any_goals
      intro W hC
      obtain ⟨q0, q1, q2, q3, q4⟩ := lq5 hC.1
      go_simp
      all_goals exact ⟨Below.refl _ _, rfl⟩
    any_goals
      revert hK
      intro hK
      go_simp
      refine hK _ ?_
      clear hK K
  iterate 8
    apply exV_exg ?_ (fun K hK => ?_)
    any_goals
      intro W hC
      first | exact relOp_off rfl rfl rfl rfl | exact relOp_none rfl rfl rfl | skip
      all_goals
        refine relOp_on rfl rfl ?_
        obtain ⟨q0, q1, q2, q3, q4⟩ := lq5 hC.1
        go_simp
        all_goals exact ⟨Below.refl _ _, rfl⟩
    any_goals
      revert hK
      intro hK
      go_simp
      refine hK _ ?_
      clear hK K
  iterate 2
    apply exV_ex rfl ?_ (fun K hK => ?_)
    any_goals
      intro W hC
      obtain ⟨q0, q1, q2, q3, q4⟩ := lq5 hC.1
      go_simp
      all_goals exact ⟨Below.refl _ _, rfl⟩
    any_goals
      revert hK
      intro hK
      go_simp
      refine hK _ ?_
      clear hK K
  iterate 5
    apply exV_exg ?_ (fun K hK => ?_)
    any_goals
      intro W hC
      first | exact relOp_off rfl rfl rfl rfl | exact relOp_none rfl rfl rfl | skip
      all_goals
        refine relOp_on rfl rfl ?_
        obtain ⟨q0, q1, q2, q3, q4⟩ := lq5 hC.1
        go_simp
        all_goals exact ⟨Below.refl _ _, rfl⟩
    any_goals
      revert hK
      intro hK
      go_simp
      refine hK _ ?_
      clear hK K
  apply exV_exg ?_ (fun K hK => ?_)
  any_goals
    intro W hC
    first | exact relOp_off rfl rfl rfl rfl | exact relOp_none rfl rfl rfl | skip
    all_goals
      refine relOp_on rfl rfl ?_
      obtain ⟨q0, q1, q2, q3, q4⟩ := lq5 hC.1
      go_simp
      all_goals exact (HS.out W).mono fun e w' ⟨he, hb⟩ => ⟨he, hb⟩
  any_goals
    revert hK
    intro hK
    go_simp
    refine hK _ ?_
    clear hK K
  apply exV_exg ?_ (fun K hK => ?_)
  any_goals
    intro W hC
    first | exact relOp_off rfl rfl rfl rfl | exact relOp_none rfl rfl rfl | skip
    all_goals
      refine relOp_on rfl rfl ?_
      obtain ⟨q0, q1, q2, q3, q4⟩ := lq5 hC.1
      go_simp
      all_goals exact ⟨Below.refl _ _, rfl⟩
  any_goals
    revert hK
    intro hK
    go_simp
    refine hK _ ?_
    clear hK K
  iterate 2
    apply exV_ex rfl ?_ (fun K hK => ?_)
    any_goals
      intro W hC
      obtain ⟨q0, q1, q2, q3, q4⟩ := lq5 hC.1
      go_simp
      all_goals exact ⟨Below.refl _ _, rfl⟩
    any_goals
      revert hK
      intro hK
      go_simp
      refine hK _ ?_
      clear hK K
  iterate 8
    apply exV_exg ?_ (fun K hK => ?_)
    any_goals
      intro W hC
      first | exact relOp_off rfl rfl rfl rfl | exact relOp_none rfl rfl rfl | skip
      all_goals
        refine relOp_on rfl rfl ?_
        obtain ⟨q0, q1, q2, q3, q4⟩ := lq5 hC.1
        go_simp
        all_goals exact ⟨Below.refl _ _, rfl⟩
    any_goals
      revert hK
      intro hK
      go_simp
      refine hK _ ?_
      clear hK K
  iterate 2
    apply exV_ex rfl ?_ (fun K hK => ?_)
    any_goals
      intro W hC
      obtain ⟨q0, q1, q2, q3, q4⟩ := lq5 hC.1
      go_simp
      all_goals exact ⟨Below.refl _ _, rfl⟩
    any_goals
      revert hK
      intro hK
      go_simp
      refine hK _ ?_
      clear hK K
  iterate 2
    apply exV_exg ?_ (fun K hK => ?_)
    any_goals
      intro W hC
      first | exact relOp_off rfl rfl rfl rfl | exact relOp_none rfl rfl rfl | skip
      all_goals
        refine relOp_on rfl rfl ?_
        obtain ⟨q0, q1, q2, q3, q4⟩ := lq5 hC.1
        go_simp
        all_goals exact ⟨Below.refl _ _, rfl⟩
    any_goals
      revert hK
      intro hK
      go_simp
      refine hK _ ?_
      clear hK K
  apply exV_exg ?_ (fun K hK => ?_)
  any_goals
    intro W hC
    first | exact relOp_off rfl rfl rfl rfl | exact relOp_none rfl rfl rfl | skip
    all_goals
      refine relOp_on rfl rfl ?_
      obtain ⟨q0, q1, q2, q3, q4⟩ := lq5 hC.1
      go_simp
      all_goals exact (HF.out W).mono fun e w' ⟨he, hb⟩ => ⟨he, hb⟩
  any_goals
    revert hK
    intro hK
    go_simp
    refine hK _ ?_
    clear hK K
  apply exV_ex rfl ?_ (fun K hK => ?_)
  any_goals
    intro W hC
    obtain ⟨q0, q1, q2, q3, q4⟩ := lq5 hC.1
    go_simp
    all_goals exact ⟨Below.refl _ _, rfl⟩
  any_goals
    revert hK
    intro hK
    go_simp
    refine hK _ ?_
    clear hK K
  apply exV_end
  intro W hC
  clear HB1
  obtain ⟨hB, hBw⟩ := hC
  have HB2 := Lib.hid hBw
  clear hB hBw
  go_wp2_with fail
  refine (must_no _ _).mono ?_
  rintro e w3 ⟨rfl, rfl⟩
  exact ⟨rfl, rfl, HB2.out⟩

set_option maxRecDepth 100000 in
set_option maxHeartbeats 1000000 in
theorem line_fmt1 (off kd sv : Int) (sf : ByteArray) (is : Bool) (y m d1 d2 d3 h1 h2 : Int) (w : World) (ao : ByteArray) (hk : decide (0 ≤ kd) = true) (hk2 : decide (kd ≤ 2) = true) (ha : (kd == 1) = true) (hc : (kd == 2) = false) (HS : Hid (∀ W, Calls Tryz.prog 55 #[.string ⟨#[]⟩] W fun e w' => e = .returned (.bool false) ∧ Below W.heap.size W w')) (HF : Hid (∀ W, Calls Tryz.prog 98 #[.string sf] W fun e w' => e = .returned (.bool false) ∧ Below W.heap.size W w'))
    (HA : Hid (∀ W, Below w.heap.size w W → Calls Tryz.prog 96 #[.int .i64 off] W fun e w' => e = .returned (.string ao) ∧ Below W.heap.size W w')) :
    Calls Tryz.prog 64 #[.agg #[.int .i64 off, .int .i64 kd, .int .i64 sv, .string ⟨#[]⟩, .string sf, .bool is, .int .i64 y, .int .i64 m, .int .i64 d1, .int .i64 d2, .int .i64 d3, .int .i64 h1, .int .i64 h2]] w fun e w' => e = Fails 2 ∧ Below w.heap.size w w' := by
  have hB0 := (Below.refl w.heap.size w).alloc (Nat.le_refl _) (.cells #[.int .i64 off, .int .i64 kd, .int .i64 sv, .string ⟨#[]⟩, .string sf, .bool is, .int .i64 y, .int .i64 m, .int .i64 d1, .int .i64 d2, .int .i64 d3, .int .i64 h1, .int .i64 h2] 55)
  have HB0 := Lib.hid (And.intro (Blk.new' w 55 #[.int .i64 off, .int .i64 kd, .int .i64 sv, .string ⟨#[]⟩, .string sf, .bool is, .int .i64 y, .int .i64 m, .int .i64 d1, .int .i64 d2, .int .i64 d3, .int .i64 h1, .int .i64 h2] rfl) hB0)
  clear hB0
  go_enter Tryz.func64, Tryz.ntmps64
  go_wp2_with fail
  refine (HA.out _ HB0.out.2).mono ?_
  rintro e w1 ⟨rfl, hb1⟩
  have HB1 := Lib.hid (And.intro (HB0.out.1.below hb1 HB0.out.1.lt) (HB0.out.2.trans (hb1.mono HB0.out.2.size)))
  clear hb1 HB0 HA
  go_wp2_with fail
  refine wp_region_vals 42 (fun W => Blk W w.heap.size 55 #[.int .i64 off, .int .i64 kd, .int .i64 sv, .string ⟨#[]⟩, .string sf, .bool is, .int .i64 y, .int .i64 m, .int .i64 d1, .int .i64 d2, .int .i64 d3, .int .i64 h1, .int .i64 h2] ∧ Below w.heap.size w W) (by kernel_rfl) (by kernel_rfl) rfl (⟨HB1.out.1, HB1.out.2.drew⟩) (fun W W' h hb => ⟨h.1.below hb h.1.lt, h.2.trans (hb.mono h.2.size)⟩) ?_
  iterate 4
    apply exV_ex rfl ?_ (fun K hK => ?_)
    any_goals
      intro W hC
      obtain ⟨q0, q1, q2, q3, q4⟩ := lq5 hC.1
      go_simp
      all_goals exact ⟨Below.refl _ _, rfl⟩
    any_goals
      revert hK
      intro hK
      go_simp
      refine hK _ ?_
      clear hK K
  iterate 3
    apply exV_exg ?_ (fun K hK => ?_)
    any_goals
      intro W hC
      first | exact relOp_off rfl rfl rfl rfl | exact relOp_none rfl rfl rfl | skip
      all_goals
        refine relOp_on rfl rfl ?_
        obtain ⟨q0, q1, q2, q3, q4⟩ := lq5 hC.1
        go_simp
        all_goals exact ⟨Below.refl _ _, rfl⟩
    any_goals
      revert hK
      intro hK
      go_simp
      refine hK _ ?_
      clear hK K
  iterate 2
    apply exV_ex rfl ?_ (fun K hK => ?_)
    any_goals
      intro W hC
      obtain ⟨q0, q1, q2, q3, q4⟩ := lq5 hC.1
      go_simp
      all_goals exact ⟨Below.refl _ _, rfl⟩
    any_goals
      revert hK
      intro hK
      go_simp
      refine hK _ ?_
      clear hK K
  iterate 8
    apply exV_exg ?_ (fun K hK => ?_)
    any_goals
      intro W hC
      first | exact relOp_off rfl rfl rfl rfl | exact relOp_none rfl rfl rfl | skip
      all_goals
        refine relOp_on rfl rfl ?_
        obtain ⟨q0, q1, q2, q3, q4⟩ := lq5 hC.1
        go_simp
        all_goals exact ⟨Below.refl _ _, rfl⟩
    any_goals
      revert hK
      intro hK
      go_simp
      refine hK _ ?_
      clear hK K
  iterate 2
    apply exV_ex rfl ?_ (fun K hK => ?_)
    any_goals
      intro W hC
      obtain ⟨q0, q1, q2, q3, q4⟩ := lq5 hC.1
      go_simp
      all_goals exact ⟨Below.refl _ _, rfl⟩
    any_goals
      revert hK
      intro hK
      go_simp
      refine hK _ ?_
      clear hK K
  iterate 5
    apply exV_exg ?_ (fun K hK => ?_)
    any_goals
      intro W hC
      first | exact relOp_off rfl rfl rfl rfl | exact relOp_none rfl rfl rfl | skip
      all_goals
        refine relOp_on rfl rfl ?_
        obtain ⟨q0, q1, q2, q3, q4⟩ := lq5 hC.1
        go_simp
        all_goals exact ⟨Below.refl _ _, rfl⟩
    any_goals
      revert hK
      intro hK
      go_simp
      refine hK _ ?_
      clear hK K
  apply exV_exg ?_ (fun K hK => ?_)
  any_goals
    intro W hC
    first | exact relOp_off rfl rfl rfl rfl | exact relOp_none rfl rfl rfl | skip
    all_goals
      refine relOp_on rfl rfl ?_
      obtain ⟨q0, q1, q2, q3, q4⟩ := lq5 hC.1
      go_simp
      all_goals exact (HS.out W).mono fun e w' ⟨he, hb⟩ => ⟨he, hb⟩
  any_goals
    revert hK
    intro hK
    go_simp
    refine hK _ ?_
    clear hK K
  apply exV_exg ?_ (fun K hK => ?_)
  any_goals
    intro W hC
    first | exact relOp_off rfl rfl rfl rfl | exact relOp_none rfl rfl rfl | skip
    all_goals
      refine relOp_on rfl rfl ?_
      obtain ⟨q0, q1, q2, q3, q4⟩ := lq5 hC.1
      go_simp
      all_goals exact ⟨Below.refl _ _, rfl⟩
  any_goals
    revert hK
    intro hK
    go_simp
    refine hK _ ?_
    clear hK K
  iterate 2
    apply exV_ex rfl ?_ (fun K hK => ?_)
    any_goals
      intro W hC
      obtain ⟨q0, q1, q2, q3, q4⟩ := lq5 hC.1
      go_simp
      all_goals exact ⟨Below.refl _ _, rfl⟩
    any_goals
      revert hK
      intro hK
      go_simp
      refine hK _ ?_
      clear hK K
  iterate 8
    apply exV_exg ?_ (fun K hK => ?_)
    any_goals
      intro W hC
      first | exact relOp_off rfl rfl rfl rfl | exact relOp_none rfl rfl rfl | skip
      all_goals
        refine relOp_on rfl rfl ?_
        obtain ⟨q0, q1, q2, q3, q4⟩ := lq5 hC.1
        go_simp
        all_goals exact ⟨Below.refl _ _, rfl⟩
    any_goals
      revert hK
      intro hK
      go_simp
      refine hK _ ?_
      clear hK K
  iterate 2
    apply exV_ex rfl ?_ (fun K hK => ?_)
    any_goals
      intro W hC
      obtain ⟨q0, q1, q2, q3, q4⟩ := lq5 hC.1
      go_simp
      all_goals exact ⟨Below.refl _ _, rfl⟩
    any_goals
      revert hK
      intro hK
      go_simp
      refine hK _ ?_
      clear hK K
  iterate 2
    apply exV_exg ?_ (fun K hK => ?_)
    any_goals
      intro W hC
      first | exact relOp_off rfl rfl rfl rfl | exact relOp_none rfl rfl rfl | skip
      all_goals
        refine relOp_on rfl rfl ?_
        obtain ⟨q0, q1, q2, q3, q4⟩ := lq5 hC.1
        go_simp
        all_goals exact ⟨Below.refl _ _, rfl⟩
    any_goals
      revert hK
      intro hK
      go_simp
      refine hK _ ?_
      clear hK K
  apply exV_exg ?_ (fun K hK => ?_)
  any_goals
    intro W hC
    first | exact relOp_off rfl rfl rfl rfl | exact relOp_none rfl rfl rfl | skip
    all_goals
      refine relOp_on rfl rfl ?_
      obtain ⟨q0, q1, q2, q3, q4⟩ := lq5 hC.1
      go_simp
      all_goals exact (HF.out W).mono fun e w' ⟨he, hb⟩ => ⟨he, hb⟩
  any_goals
    revert hK
    intro hK
    go_simp
    refine hK _ ?_
    clear hK K
  apply exV_ex rfl ?_ (fun K hK => ?_)
  any_goals
    intro W hC
    obtain ⟨q0, q1, q2, q3, q4⟩ := lq5 hC.1
    go_simp
    all_goals exact ⟨Below.refl _ _, rfl⟩
  any_goals
    revert hK
    intro hK
    go_simp
    refine hK _ ?_
    clear hK K
  apply exV_end
  intro W hC
  clear HB1
  obtain ⟨hB, hBw⟩ := hC
  have HB2 := Lib.hid hBw
  clear hB hBw
  go_wp2_with fail
  refine (must_no _ _).mono ?_
  rintro e w3 ⟨rfl, rfl⟩
  exact ⟨rfl, rfl, HB2.out⟩

set_option maxRecDepth 100000 in
set_option maxHeartbeats 1000000 in
theorem line_set_t0 (off kd sv : Int) (sn sf : ByteArray) (is : Bool) (y m d1 d2 d3 h1 h2 : Int) (w : World) (ao : ByteArray) (hk : decide (0 ≤ kd) = true) (hk2 : decide (kd ≤ 2) = true) (ha : (kd == 1) = false) (hsv : (sv == 0) = true) (hc : (kd == 2) = false) (HS : Hid (∀ W, Calls Tryz.prog 55 #[.string sn] W fun e w' => e = .returned (.bool true) ∧ Below W.heap.size W w'))
    (HA : Hid (∀ W, Below w.heap.size w W → Calls Tryz.prog 96 #[.int .i64 off] W fun e w' => e = .returned (.string ao) ∧ Below W.heap.size W w')) :
    Calls Tryz.prog 64 #[.agg #[.int .i64 off, .int .i64 kd, .int .i64 sv, .string sn, .string sf, .bool is, .int .i64 y, .int .i64 m, .int .i64 d1, .int .i64 d2, .int .i64 d3, .int .i64 h1, .int .i64 h2]] w fun e w' => e = Fails 2 ∧ Below w.heap.size w w' := by
  have hB0 := (Below.refl w.heap.size w).alloc (Nat.le_refl _) (.cells #[.int .i64 off, .int .i64 kd, .int .i64 sv, .string sn, .string sf, .bool is, .int .i64 y, .int .i64 m, .int .i64 d1, .int .i64 d2, .int .i64 d3, .int .i64 h1, .int .i64 h2] 55)
  have HB0 := Lib.hid (And.intro (Blk.new' w 55 #[.int .i64 off, .int .i64 kd, .int .i64 sv, .string sn, .string sf, .bool is, .int .i64 y, .int .i64 m, .int .i64 d1, .int .i64 d2, .int .i64 d3, .int .i64 h1, .int .i64 h2] rfl) hB0)
  clear hB0
  go_enter Tryz.func64, Tryz.ntmps64
  go_wp2_with fail
  refine (HA.out _ HB0.out.2).mono ?_
  rintro e w1 ⟨rfl, hb1⟩
  have HB1 := Lib.hid (And.intro (HB0.out.1.below hb1 HB0.out.1.lt) (HB0.out.2.trans (hb1.mono HB0.out.2.size)))
  clear hb1 HB0 HA
  go_wp2_with fail
  refine wp_region_vals 42 (fun W => Blk W w.heap.size 55 #[.int .i64 off, .int .i64 kd, .int .i64 sv, .string sn, .string sf, .bool is, .int .i64 y, .int .i64 m, .int .i64 d1, .int .i64 d2, .int .i64 d3, .int .i64 h1, .int .i64 h2] ∧ Below w.heap.size w W) (by kernel_rfl) (by kernel_rfl) rfl (⟨HB1.out.1, HB1.out.2.drew⟩) (fun W W' h hb => ⟨h.1.below hb h.1.lt, h.2.trans (hb.mono h.2.size)⟩) ?_
  iterate 4
    apply exV_ex rfl ?_ (fun K hK => ?_)
    any_goals
      intro W hC
      obtain ⟨q0, q1, q2, q3, q4⟩ := lq5 hC.1
      go_simp
      all_goals exact ⟨Below.refl _ _, rfl⟩
    any_goals
      revert hK
      intro hK
      go_simp
      refine hK _ ?_
      clear hK K
  iterate 3
    apply exV_exg ?_ (fun K hK => ?_)
    any_goals
      intro W hC
      first | exact relOp_off rfl rfl rfl rfl | exact relOp_none rfl rfl rfl | skip
      all_goals
        refine relOp_on rfl rfl ?_
        obtain ⟨q0, q1, q2, q3, q4⟩ := lq5 hC.1
        go_simp
        all_goals exact ⟨Below.refl _ _, rfl⟩
    any_goals
      revert hK
      intro hK
      go_simp
      refine hK _ ?_
      clear hK K
  iterate 2
    apply exV_ex rfl ?_ (fun K hK => ?_)
    any_goals
      intro W hC
      obtain ⟨q0, q1, q2, q3, q4⟩ := lq5 hC.1
      go_simp
      all_goals exact ⟨Below.refl _ _, rfl⟩
    any_goals
      revert hK
      intro hK
      go_simp
      refine hK _ ?_
      clear hK K
  iterate 8
    apply exV_exg ?_ (fun K hK => ?_)
    any_goals
      intro W hC
      first | exact relOp_off rfl rfl rfl rfl | exact relOp_none rfl rfl rfl | skip
      all_goals
        refine relOp_on rfl rfl ?_
        obtain ⟨q0, q1, q2, q3, q4⟩ := lq5 hC.1
        go_simp
        all_goals exact ⟨Below.refl _ _, rfl⟩
    any_goals
      revert hK
      intro hK
      go_simp
      refine hK _ ?_
      clear hK K
  iterate 2
    apply exV_ex rfl ?_ (fun K hK => ?_)
    any_goals
      intro W hC
      obtain ⟨q0, q1, q2, q3, q4⟩ := lq5 hC.1
      go_simp
      all_goals exact ⟨Below.refl _ _, rfl⟩
    any_goals
      revert hK
      intro hK
      go_simp
      refine hK _ ?_
      clear hK K
  iterate 5
    apply exV_exg ?_ (fun K hK => ?_)
    any_goals
      intro W hC
      first | exact relOp_off rfl rfl rfl rfl | exact relOp_none rfl rfl rfl | skip
      all_goals
        refine relOp_on rfl rfl ?_
        obtain ⟨q0, q1, q2, q3, q4⟩ := lq5 hC.1
        go_simp
        all_goals exact ⟨Below.refl _ _, rfl⟩
    any_goals
      revert hK
      intro hK
      go_simp
      refine hK _ ?_
      clear hK K
  apply exV_exg ?_ (fun K hK => ?_)
  any_goals
    intro W hC
    first | exact relOp_off rfl rfl rfl rfl | exact relOp_none rfl rfl rfl | skip
    all_goals
      refine relOp_on rfl rfl ?_
      obtain ⟨q0, q1, q2, q3, q4⟩ := lq5 hC.1
      go_simp
      all_goals exact (HS.out W).mono fun e w' ⟨he, hb⟩ => ⟨he, hb⟩
  any_goals
    revert hK
    intro hK
    go_simp
    refine hK _ ?_
    clear hK K
  apply exV_exg ?_ (fun K hK => ?_)
  any_goals
    intro W hC
    first | exact relOp_off rfl rfl rfl rfl | exact relOp_none rfl rfl rfl | skip
    all_goals
      refine relOp_on rfl rfl ?_
      obtain ⟨q0, q1, q2, q3, q4⟩ := lq5 hC.1
      go_simp
      all_goals exact ⟨Below.refl _ _, rfl⟩
  any_goals
    revert hK
    intro hK
    go_simp
    refine hK _ ?_
    clear hK K
  iterate 2
    apply exV_ex rfl ?_ (fun K hK => ?_)
    any_goals
      intro W hC
      obtain ⟨q0, q1, q2, q3, q4⟩ := lq5 hC.1
      go_simp
      all_goals exact ⟨Below.refl _ _, rfl⟩
    any_goals
      revert hK
      intro hK
      go_simp
      refine hK _ ?_
      clear hK K
  iterate 8
    apply exV_exg ?_ (fun K hK => ?_)
    any_goals
      intro W hC
      first | exact relOp_off rfl rfl rfl rfl | exact relOp_none rfl rfl rfl | skip
      all_goals
        refine relOp_on rfl rfl ?_
        obtain ⟨q0, q1, q2, q3, q4⟩ := lq5 hC.1
        go_simp
        all_goals exact ⟨Below.refl _ _, rfl⟩
    any_goals
      revert hK
      intro hK
      go_simp
      refine hK _ ?_
      clear hK K
  iterate 2
    apply exV_ex rfl ?_ (fun K hK => ?_)
    any_goals
      intro W hC
      obtain ⟨q0, q1, q2, q3, q4⟩ := lq5 hC.1
      go_simp
      all_goals exact ⟨Below.refl _ _, rfl⟩
    any_goals
      revert hK
      intro hK
      go_simp
      refine hK _ ?_
      clear hK K
  iterate 2
    apply exV_exg ?_ (fun K hK => ?_)
    any_goals
      intro W hC
      first | exact relOp_off rfl rfl rfl rfl | exact relOp_none rfl rfl rfl | skip
      all_goals
        refine relOp_on rfl rfl ?_
        obtain ⟨q0, q1, q2, q3, q4⟩ := lq5 hC.1
        go_simp
        all_goals exact ⟨Below.refl _ _, rfl⟩
    any_goals
      revert hK
      intro hK
      go_simp
      refine hK _ ?_
      clear hK K
  apply exV_exg ?_ (fun K hK => ?_)
  any_goals
    intro W hC
    first | exact relOp_off rfl rfl rfl rfl | exact relOp_none rfl rfl rfl | skip
    all_goals
      refine relOp_on rfl rfl ?_
      obtain ⟨q0, q1, q2, q3, q4⟩ := lq5 hC.1
      go_simp
      all_goals exact (HF.out W).mono fun e w' ⟨he, hb⟩ => ⟨he, hb⟩
  any_goals
    revert hK
    intro hK
    go_simp
    refine hK _ ?_
    clear hK K
  apply exV_ex rfl ?_ (fun K hK => ?_)
  any_goals
    intro W hC
    obtain ⟨q0, q1, q2, q3, q4⟩ := lq5 hC.1
    go_simp
    all_goals exact ⟨Below.refl _ _, rfl⟩
  any_goals
    revert hK
    intro hK
    go_simp
    refine hK _ ?_
    clear hK K
  apply exV_end
  intro W hC
  clear HB1
  obtain ⟨hB, hBw⟩ := hC
  have HB2 := Lib.hid hBw
  clear hB hBw
  go_wp2_with fail
  refine (must_no _ _).mono ?_
  rintro e w3 ⟨rfl, rfl⟩
  exact ⟨rfl, rfl, HB2.out⟩

set_option maxRecDepth 100000 in
set_option maxHeartbeats 1000000 in
theorem line_rest0 (off kd sv : Int) (sn sf : ByteArray) (is : Bool) (y m d1 d2 d3 h1 h2 : Int) (w : World) (ao : ByteArray) (hk : decide (0 ≤ kd) = true) (hk2 : decide (kd ≤ 2) = true) (ha : (kd == 1) = false) (hsv : (sv == 0) = true) (hc : (kd == 2) = false) (hne : sn.toList.isEmpty = false) (hne2 : (sn.toList == []) = false) (HS : Hid (∀ W, Calls Tryz.prog 55 #[.string sn] W fun e w' => e = .returned (.bool false) ∧ Below W.heap.size W w'))
    (HA : Hid (∀ W, Below w.heap.size w W → Calls Tryz.prog 96 #[.int .i64 off] W fun e w' => e = .returned (.string ao) ∧ Below W.heap.size W w')) :
    Calls Tryz.prog 64 #[.agg #[.int .i64 off, .int .i64 kd, .int .i64 sv, .string sn, .string sf, .bool is, .int .i64 y, .int .i64 m, .int .i64 d1, .int .i64 d2, .int .i64 d3, .int .i64 h1, .int .i64 h2]] w fun e w' => e = Fails 2 ∧ Below w.heap.size w w' := by
  have hB0 := (Below.refl w.heap.size w).alloc (Nat.le_refl _) (.cells #[.int .i64 off, .int .i64 kd, .int .i64 sv, .string sn, .string sf, .bool is, .int .i64 y, .int .i64 m, .int .i64 d1, .int .i64 d2, .int .i64 d3, .int .i64 h1, .int .i64 h2] 55)
  have HB0 := Lib.hid (And.intro (Blk.new' w 55 #[.int .i64 off, .int .i64 kd, .int .i64 sv, .string sn, .string sf, .bool is, .int .i64 y, .int .i64 m, .int .i64 d1, .int .i64 d2, .int .i64 d3, .int .i64 h1, .int .i64 h2] rfl) hB0)
  clear hB0
  go_enter Tryz.func64, Tryz.ntmps64
  go_wp2_with fail
  refine (HA.out _ HB0.out.2).mono ?_
  rintro e w1 ⟨rfl, hb1⟩
  have HB1 := Lib.hid (And.intro (HB0.out.1.below hb1 HB0.out.1.lt) (HB0.out.2.trans (hb1.mono HB0.out.2.size)))
  clear hb1 HB0 HA
  go_wp2_with fail
  refine wp_region_vals 42 (fun W => Blk W w.heap.size 55 #[.int .i64 off, .int .i64 kd, .int .i64 sv, .string sn, .string sf, .bool is, .int .i64 y, .int .i64 m, .int .i64 d1, .int .i64 d2, .int .i64 d3, .int .i64 h1, .int .i64 h2] ∧ Below w.heap.size w W) (by kernel_rfl) (by kernel_rfl) rfl (⟨HB1.out.1, HB1.out.2.drew⟩) (fun W W' h hb => ⟨h.1.below hb h.1.lt, h.2.trans (hb.mono h.2.size)⟩) ?_
  iterate 4
    apply exV_ex rfl ?_ (fun K hK => ?_)
    any_goals
      intro W hC
      obtain ⟨q0, q1, q2, q3, q4⟩ := lq5 hC.1
      go_simp
      all_goals exact ⟨Below.refl _ _, rfl⟩
    any_goals
      revert hK
      intro hK
      go_simp
      refine hK _ ?_
      clear hK K
  iterate 3
    apply exV_exg ?_ (fun K hK => ?_)
    any_goals
      intro W hC
      first | exact relOp_off rfl rfl rfl rfl | exact relOp_none rfl rfl rfl | skip
      all_goals
        refine relOp_on rfl rfl ?_
        obtain ⟨q0, q1, q2, q3, q4⟩ := lq5 hC.1
        go_simp
        all_goals exact ⟨Below.refl _ _, rfl⟩
    any_goals
      revert hK
      intro hK
      go_simp
      refine hK _ ?_
      clear hK K
  iterate 2
    apply exV_ex rfl ?_ (fun K hK => ?_)
    any_goals
      intro W hC
      obtain ⟨q0, q1, q2, q3, q4⟩ := lq5 hC.1
      go_simp
      all_goals exact ⟨Below.refl _ _, rfl⟩
    any_goals
      revert hK
      intro hK
      go_simp
      refine hK _ ?_
      clear hK K
  iterate 8
    apply exV_exg ?_ (fun K hK => ?_)
    any_goals
      intro W hC
      first | exact relOp_off rfl rfl rfl rfl | exact relOp_none rfl rfl rfl | skip
      all_goals
        refine relOp_on rfl rfl ?_
        obtain ⟨q0, q1, q2, q3, q4⟩ := lq5 hC.1
        go_simp
        all_goals exact ⟨Below.refl _ _, rfl⟩
    any_goals
      revert hK
      intro hK
      go_simp
      refine hK _ ?_
      clear hK K
  iterate 2
    apply exV_ex rfl ?_ (fun K hK => ?_)
    any_goals
      intro W hC
      obtain ⟨q0, q1, q2, q3, q4⟩ := lq5 hC.1
      go_simp
      all_goals exact ⟨Below.refl _ _, rfl⟩
    any_goals
      revert hK
      intro hK
      go_simp
      refine hK _ ?_
      clear hK K
  iterate 5
    apply exV_exg ?_ (fun K hK => ?_)
    any_goals
      intro W hC
      first | exact relOp_off rfl rfl rfl rfl | exact relOp_none rfl rfl rfl | skip
      all_goals
        refine relOp_on rfl rfl ?_
        obtain ⟨q0, q1, q2, q3, q4⟩ := lq5 hC.1
        go_simp
        all_goals exact ⟨Below.refl _ _, rfl⟩
    any_goals
      revert hK
      intro hK
      go_simp
      refine hK _ ?_
      clear hK K
  apply exV_exg ?_ (fun K hK => ?_)
  any_goals
    intro W hC
    first | exact relOp_off rfl rfl rfl rfl | exact relOp_none rfl rfl rfl | skip
    all_goals
      refine relOp_on rfl rfl ?_
      obtain ⟨q0, q1, q2, q3, q4⟩ := lq5 hC.1
      go_simp
      all_goals exact (HS.out W).mono fun e w' ⟨he, hb⟩ => ⟨he, hb⟩
  any_goals
    revert hK
    intro hK
    go_simp
    refine hK _ ?_
    clear hK K
  apply exV_exg ?_ (fun K hK => ?_)
  any_goals
    intro W hC
    first | exact relOp_off rfl rfl rfl rfl | exact relOp_none rfl rfl rfl | skip
    all_goals
      refine relOp_on rfl rfl ?_
      obtain ⟨q0, q1, q2, q3, q4⟩ := lq5 hC.1
      go_simp
      all_goals exact ⟨Below.refl _ _, rfl⟩
  any_goals
    revert hK
    intro hK
    go_simp
    refine hK _ ?_
    clear hK K
  iterate 2
    apply exV_ex rfl ?_ (fun K hK => ?_)
    any_goals
      intro W hC
      obtain ⟨q0, q1, q2, q3, q4⟩ := lq5 hC.1
      go_simp
      all_goals exact ⟨Below.refl _ _, rfl⟩
    any_goals
      revert hK
      intro hK
      go_simp
      refine hK _ ?_
      clear hK K
  iterate 8
    apply exV_exg ?_ (fun K hK => ?_)
    any_goals
      intro W hC
      first | exact relOp_off rfl rfl rfl rfl | exact relOp_none rfl rfl rfl | skip
      all_goals
        refine relOp_on rfl rfl ?_
        obtain ⟨q0, q1, q2, q3, q4⟩ := lq5 hC.1
        go_simp
        all_goals exact ⟨Below.refl _ _, rfl⟩
    any_goals
      revert hK
      intro hK
      go_simp
      refine hK _ ?_
      clear hK K
  iterate 2
    apply exV_ex rfl ?_ (fun K hK => ?_)
    any_goals
      intro W hC
      obtain ⟨q0, q1, q2, q3, q4⟩ := lq5 hC.1
      go_simp
      all_goals exact ⟨Below.refl _ _, rfl⟩
    any_goals
      revert hK
      intro hK
      go_simp
      refine hK _ ?_
      clear hK K
  iterate 2
    apply exV_exg ?_ (fun K hK => ?_)
    any_goals
      intro W hC
      first | exact relOp_off rfl rfl rfl rfl | exact relOp_none rfl rfl rfl | skip
      all_goals
        refine relOp_on rfl rfl ?_
        obtain ⟨q0, q1, q2, q3, q4⟩ := lq5 hC.1
        go_simp
        all_goals exact ⟨Below.refl _ _, rfl⟩
    any_goals
      revert hK
      intro hK
      go_simp
      refine hK _ ?_
      clear hK K
  apply exV_exg ?_ (fun K hK => ?_)
  any_goals
    intro W hC
    first | exact relOp_off rfl rfl rfl rfl | exact relOp_none rfl rfl rfl | skip
    all_goals
      refine relOp_on rfl rfl ?_
      obtain ⟨q0, q1, q2, q3, q4⟩ := lq5 hC.1
      go_simp
      all_goals exact (HF.out W).mono fun e w' ⟨he, hb⟩ => ⟨he, hb⟩
  any_goals
    revert hK
    intro hK
    go_simp
    refine hK _ ?_
    clear hK K
  apply exV_ex rfl ?_ (fun K hK => ?_)
  any_goals
    intro W hC
    obtain ⟨q0, q1, q2, q3, q4⟩ := lq5 hC.1
    go_simp
    all_goals exact ⟨Below.refl _ _, rfl⟩
  any_goals
    revert hK
    intro hK
    go_simp
    refine hK _ ?_
    clear hK K
  apply exV_end
  intro W hC
  clear HB1
  obtain ⟨hB, hBw⟩ := hC
  have HB2 := Lib.hid hBw
  clear hB hBw
  go_wp2_with fail
  refine (must_no _ _).mono ?_
  rintro e w3 ⟨rfl, rfl⟩
  exact ⟨rfl, rfl, HB2.out⟩

set_option maxRecDepth 100000 in
set_option maxHeartbeats 1000000 in
theorem line_fmt0 (off kd sv : Int) (sf : ByteArray) (is : Bool) (y m d1 d2 d3 h1 h2 : Int) (w : World) (ao : ByteArray) (hk : decide (0 ≤ kd) = true) (hk2 : decide (kd ≤ 2) = true) (ha : (kd == 1) = false) (hsv : (sv == 0) = true) (hc : (kd == 2) = false) (HS : Hid (∀ W, Calls Tryz.prog 55 #[.string ⟨#[]⟩] W fun e w' => e = .returned (.bool false) ∧ Below W.heap.size W w')) (HF : Hid (∀ W, Calls Tryz.prog 98 #[.string sf] W fun e w' => e = .returned (.bool false) ∧ Below W.heap.size W w'))
    (HA : Hid (∀ W, Below w.heap.size w W → Calls Tryz.prog 96 #[.int .i64 off] W fun e w' => e = .returned (.string ao) ∧ Below W.heap.size W w')) :
    Calls Tryz.prog 64 #[.agg #[.int .i64 off, .int .i64 kd, .int .i64 sv, .string ⟨#[]⟩, .string sf, .bool is, .int .i64 y, .int .i64 m, .int .i64 d1, .int .i64 d2, .int .i64 d3, .int .i64 h1, .int .i64 h2]] w fun e w' => e = Fails 2 ∧ Below w.heap.size w w' := by
  have hB0 := (Below.refl w.heap.size w).alloc (Nat.le_refl _) (.cells #[.int .i64 off, .int .i64 kd, .int .i64 sv, .string ⟨#[]⟩, .string sf, .bool is, .int .i64 y, .int .i64 m, .int .i64 d1, .int .i64 d2, .int .i64 d3, .int .i64 h1, .int .i64 h2] 55)
  have HB0 := Lib.hid (And.intro (Blk.new' w 55 #[.int .i64 off, .int .i64 kd, .int .i64 sv, .string ⟨#[]⟩, .string sf, .bool is, .int .i64 y, .int .i64 m, .int .i64 d1, .int .i64 d2, .int .i64 d3, .int .i64 h1, .int .i64 h2] rfl) hB0)
  clear hB0
  go_enter Tryz.func64, Tryz.ntmps64
  go_wp2_with fail
  refine (HA.out _ HB0.out.2).mono ?_
  rintro e w1 ⟨rfl, hb1⟩
  have HB1 := Lib.hid (And.intro (HB0.out.1.below hb1 HB0.out.1.lt) (HB0.out.2.trans (hb1.mono HB0.out.2.size)))
  clear hb1 HB0 HA
  go_wp2_with fail
  refine wp_region_vals 42 (fun W => Blk W w.heap.size 55 #[.int .i64 off, .int .i64 kd, .int .i64 sv, .string ⟨#[]⟩, .string sf, .bool is, .int .i64 y, .int .i64 m, .int .i64 d1, .int .i64 d2, .int .i64 d3, .int .i64 h1, .int .i64 h2] ∧ Below w.heap.size w W) (by kernel_rfl) (by kernel_rfl) rfl (⟨HB1.out.1, HB1.out.2.drew⟩) (fun W W' h hb => ⟨h.1.below hb h.1.lt, h.2.trans (hb.mono h.2.size)⟩) ?_
  iterate 4
    apply exV_ex rfl ?_ (fun K hK => ?_)
    any_goals
      intro W hC
      obtain ⟨q0, q1, q2, q3, q4⟩ := lq5 hC.1
      go_simp
      all_goals exact ⟨Below.refl _ _, rfl⟩
    any_goals
      revert hK
      intro hK
      go_simp
      refine hK _ ?_
      clear hK K
  iterate 3
    apply exV_exg ?_ (fun K hK => ?_)
    any_goals
      intro W hC
      first | exact relOp_off rfl rfl rfl rfl | exact relOp_none rfl rfl rfl | skip
      all_goals
        refine relOp_on rfl rfl ?_
        obtain ⟨q0, q1, q2, q3, q4⟩ := lq5 hC.1
        go_simp
        all_goals exact ⟨Below.refl _ _, rfl⟩
    any_goals
      revert hK
      intro hK
      go_simp
      refine hK _ ?_
      clear hK K
  iterate 2
    apply exV_ex rfl ?_ (fun K hK => ?_)
    any_goals
      intro W hC
      obtain ⟨q0, q1, q2, q3, q4⟩ := lq5 hC.1
      go_simp
      all_goals exact ⟨Below.refl _ _, rfl⟩
    any_goals
      revert hK
      intro hK
      go_simp
      refine hK _ ?_
      clear hK K
  iterate 8
    apply exV_exg ?_ (fun K hK => ?_)
    any_goals
      intro W hC
      first | exact relOp_off rfl rfl rfl rfl | exact relOp_none rfl rfl rfl | skip
      all_goals
        refine relOp_on rfl rfl ?_
        obtain ⟨q0, q1, q2, q3, q4⟩ := lq5 hC.1
        go_simp
        all_goals exact ⟨Below.refl _ _, rfl⟩
    any_goals
      revert hK
      intro hK
      go_simp
      refine hK _ ?_
      clear hK K
  iterate 2
    apply exV_ex rfl ?_ (fun K hK => ?_)
    any_goals
      intro W hC
      obtain ⟨q0, q1, q2, q3, q4⟩ := lq5 hC.1
      go_simp
      all_goals exact ⟨Below.refl _ _, rfl⟩
    any_goals
      revert hK
      intro hK
      go_simp
      refine hK _ ?_
      clear hK K
  iterate 5
    apply exV_exg ?_ (fun K hK => ?_)
    any_goals
      intro W hC
      first | exact relOp_off rfl rfl rfl rfl | exact relOp_none rfl rfl rfl | skip
      all_goals
        refine relOp_on rfl rfl ?_
        obtain ⟨q0, q1, q2, q3, q4⟩ := lq5 hC.1
        go_simp
        all_goals exact ⟨Below.refl _ _, rfl⟩
    any_goals
      revert hK
      intro hK
      go_simp
      refine hK _ ?_
      clear hK K
  apply exV_exg ?_ (fun K hK => ?_)
  any_goals
    intro W hC
    first | exact relOp_off rfl rfl rfl rfl | exact relOp_none rfl rfl rfl | skip
    all_goals
      refine relOp_on rfl rfl ?_
      obtain ⟨q0, q1, q2, q3, q4⟩ := lq5 hC.1
      go_simp
      all_goals exact (HS.out W).mono fun e w' ⟨he, hb⟩ => ⟨he, hb⟩
  any_goals
    revert hK
    intro hK
    go_simp
    refine hK _ ?_
    clear hK K
  apply exV_exg ?_ (fun K hK => ?_)
  any_goals
    intro W hC
    first | exact relOp_off rfl rfl rfl rfl | exact relOp_none rfl rfl rfl | skip
    all_goals
      refine relOp_on rfl rfl ?_
      obtain ⟨q0, q1, q2, q3, q4⟩ := lq5 hC.1
      go_simp
      all_goals exact ⟨Below.refl _ _, rfl⟩
  any_goals
    revert hK
    intro hK
    go_simp
    refine hK _ ?_
    clear hK K
  iterate 2
    apply exV_ex rfl ?_ (fun K hK => ?_)
    any_goals
      intro W hC
      obtain ⟨q0, q1, q2, q3, q4⟩ := lq5 hC.1
      go_simp
      all_goals exact ⟨Below.refl _ _, rfl⟩
    any_goals
      revert hK
      intro hK
      go_simp
      refine hK _ ?_
      clear hK K
  iterate 8
    apply exV_exg ?_ (fun K hK => ?_)
    any_goals
      intro W hC
      first | exact relOp_off rfl rfl rfl rfl | exact relOp_none rfl rfl rfl | skip
      all_goals
        refine relOp_on rfl rfl ?_
        obtain ⟨q0, q1, q2, q3, q4⟩ := lq5 hC.1
        go_simp
        all_goals exact ⟨Below.refl _ _, rfl⟩
    any_goals
      revert hK
      intro hK
      go_simp
      refine hK _ ?_
      clear hK K
  iterate 2
    apply exV_ex rfl ?_ (fun K hK => ?_)
    any_goals
      intro W hC
      obtain ⟨q0, q1, q2, q3, q4⟩ := lq5 hC.1
      go_simp
      all_goals exact ⟨Below.refl _ _, rfl⟩
    any_goals
      revert hK
      intro hK
      go_simp
      refine hK _ ?_
      clear hK K
  iterate 2
    apply exV_exg ?_ (fun K hK => ?_)
    any_goals
      intro W hC
      first | exact relOp_off rfl rfl rfl rfl | exact relOp_none rfl rfl rfl | skip
      all_goals
        refine relOp_on rfl rfl ?_
        obtain ⟨q0, q1, q2, q3, q4⟩ := lq5 hC.1
        go_simp
        all_goals exact ⟨Below.refl _ _, rfl⟩
    any_goals
      revert hK
      intro hK
      go_simp
      refine hK _ ?_
      clear hK K
  apply exV_exg ?_ (fun K hK => ?_)
  any_goals
    intro W hC
    first | exact relOp_off rfl rfl rfl rfl | exact relOp_none rfl rfl rfl | skip
    all_goals
      refine relOp_on rfl rfl ?_
      obtain ⟨q0, q1, q2, q3, q4⟩ := lq5 hC.1
      go_simp
      all_goals exact (HF.out W).mono fun e w' ⟨he, hb⟩ => ⟨he, hb⟩
  any_goals
    revert hK
    intro hK
    go_simp
    refine hK _ ?_
    clear hK K
  apply exV_ex rfl ?_ (fun K hK => ?_)
  any_goals
    intro W hC
    obtain ⟨q0, q1, q2, q3, q4⟩ := lq5 hC.1
    go_simp
    all_goals exact ⟨Below.refl _ _, rfl⟩
  any_goals
    revert hK
    intro hK
    go_simp
    refine hK _ ?_
    clear hK K
  apply exV_end
  intro W hC
  clear HB1
  obtain ⟨hB, hBw⟩ := hC
  have HB2 := Lib.hid hBw
  clear hB hBw
  go_wp2_with fail
  refine (must_no _ _).mono ?_
  rintro e w3 ⟨rfl, rfl⟩
  exact ⟨rfl, rfl, HB2.out⟩

set_option maxRecDepth 100000 in
set_option maxHeartbeats 1000000 in
theorem line_set_f (off kd sv : Int) (sn sf : ByteArray) (is : Bool) (y m d1 d2 d3 h1 h2 : Int) (w : World) (ao : ByteArray) (hk : decide (0 ≤ kd) = true) (hk2 : decide (kd ≤ 2) = true) (ha : (kd == 1) = false) (hsv : (sv == 0) = true) (hc : (kd == 2) = true) (HS : Hid (∀ W, Calls Tryz.prog 55 #[.string sn] W fun e w' => e = .returned (.bool false) ∧ Below W.heap.size W w'))
    (HA : Hid (∀ W, Below w.heap.size w W → Calls Tryz.prog 96 #[.int .i64 off] W fun e w' => e = .returned (.string ao) ∧ Below W.heap.size W w')) :
    Calls Tryz.prog 64 #[.agg #[.int .i64 off, .int .i64 kd, .int .i64 sv, .string sn, .string sf, .bool is, .int .i64 y, .int .i64 m, .int .i64 d1, .int .i64 d2, .int .i64 d3, .int .i64 h1, .int .i64 h2]] w fun e w' => e = Fails 2 ∧ Below w.heap.size w w' := by
  have hB0 := (Below.refl w.heap.size w).alloc (Nat.le_refl _) (.cells #[.int .i64 off, .int .i64 kd, .int .i64 sv, .string sn, .string sf, .bool is, .int .i64 y, .int .i64 m, .int .i64 d1, .int .i64 d2, .int .i64 d3, .int .i64 h1, .int .i64 h2] 55)
  have HB0 := Lib.hid (And.intro (Blk.new' w 55 #[.int .i64 off, .int .i64 kd, .int .i64 sv, .string sn, .string sf, .bool is, .int .i64 y, .int .i64 m, .int .i64 d1, .int .i64 d2, .int .i64 d3, .int .i64 h1, .int .i64 h2] rfl) hB0)
  clear hB0
  go_enter Tryz.func64, Tryz.ntmps64
  go_wp2_with fail
  refine (HA.out _ HB0.out.2).mono ?_
  rintro e w1 ⟨rfl, hb1⟩
  have HB1 := Lib.hid (And.intro (HB0.out.1.below hb1 HB0.out.1.lt) (HB0.out.2.trans (hb1.mono HB0.out.2.size)))
  clear hb1 HB0 HA
  go_wp2_with fail
  refine wp_region_vals 42 (fun W => Blk W w.heap.size 55 #[.int .i64 off, .int .i64 kd, .int .i64 sv, .string sn, .string sf, .bool is, .int .i64 y, .int .i64 m, .int .i64 d1, .int .i64 d2, .int .i64 d3, .int .i64 h1, .int .i64 h2] ∧ Below w.heap.size w W) (by kernel_rfl) (by kernel_rfl) rfl (⟨HB1.out.1, HB1.out.2.drew⟩) (fun W W' h hb => ⟨h.1.below hb h.1.lt, h.2.trans (hb.mono h.2.size)⟩) ?_
  iterate 4
    apply exV_ex rfl ?_ (fun K hK => ?_)
    any_goals
      intro W hC
      obtain ⟨q0, q1, q2, q3, q4⟩ := lq5 hC.1
      go_simp
      all_goals exact ⟨Below.refl _ _, rfl⟩
    any_goals
      revert hK
      intro hK
      go_simp
      refine hK _ ?_
      clear hK K
  iterate 3
    apply exV_exg ?_ (fun K hK => ?_)
    any_goals
      intro W hC
      first | exact relOp_off rfl rfl rfl rfl | exact relOp_none rfl rfl rfl | skip
      all_goals
        refine relOp_on rfl rfl ?_
        obtain ⟨q0, q1, q2, q3, q4⟩ := lq5 hC.1
        go_simp
        all_goals exact ⟨Below.refl _ _, rfl⟩
    any_goals
      revert hK
      intro hK
      go_simp
      refine hK _ ?_
      clear hK K
  iterate 2
    apply exV_ex rfl ?_ (fun K hK => ?_)
    any_goals
      intro W hC
      obtain ⟨q0, q1, q2, q3, q4⟩ := lq5 hC.1
      go_simp
      all_goals exact ⟨Below.refl _ _, rfl⟩
    any_goals
      revert hK
      intro hK
      go_simp
      refine hK _ ?_
      clear hK K
  iterate 8
    apply exV_exg ?_ (fun K hK => ?_)
    any_goals
      intro W hC
      first | exact relOp_off rfl rfl rfl rfl | exact relOp_none rfl rfl rfl | skip
      all_goals
        refine relOp_on rfl rfl ?_
        obtain ⟨q0, q1, q2, q3, q4⟩ := lq5 hC.1
        go_simp
        all_goals exact ⟨Below.refl _ _, rfl⟩
    any_goals
      revert hK
      intro hK
      go_simp
      refine hK _ ?_
      clear hK K
  iterate 2
    apply exV_ex rfl ?_ (fun K hK => ?_)
    any_goals
      intro W hC
      obtain ⟨q0, q1, q2, q3, q4⟩ := lq5 hC.1
      go_simp
      all_goals exact ⟨Below.refl _ _, rfl⟩
    any_goals
      revert hK
      intro hK
      go_simp
      refine hK _ ?_
      clear hK K
  iterate 5
    apply exV_exg ?_ (fun K hK => ?_)
    any_goals
      intro W hC
      first | exact relOp_off rfl rfl rfl rfl | exact relOp_none rfl rfl rfl | skip
      all_goals
        refine relOp_on rfl rfl ?_
        obtain ⟨q0, q1, q2, q3, q4⟩ := lq5 hC.1
        go_simp
        all_goals exact ⟨Below.refl _ _, rfl⟩
    any_goals
      revert hK
      intro hK
      go_simp
      refine hK _ ?_
      clear hK K
  apply exV_exg ?_ (fun K hK => ?_)
  any_goals
    intro W hC
    first | exact relOp_off rfl rfl rfl rfl | exact relOp_none rfl rfl rfl | skip
    all_goals
      refine relOp_on rfl rfl ?_
      obtain ⟨q0, q1, q2, q3, q4⟩ := lq5 hC.1
      go_simp
      all_goals exact (HS.out W).mono fun e w' ⟨he, hb⟩ => ⟨he, hb⟩
  any_goals
    revert hK
    intro hK
    go_simp
    refine hK _ ?_
    clear hK K
  apply exV_exg ?_ (fun K hK => ?_)
  any_goals
    intro W hC
    first | exact relOp_off rfl rfl rfl rfl | exact relOp_none rfl rfl rfl | skip
    all_goals
      refine relOp_on rfl rfl ?_
      obtain ⟨q0, q1, q2, q3, q4⟩ := lq5 hC.1
      go_simp
      all_goals exact ⟨Below.refl _ _, rfl⟩
  any_goals
    revert hK
    intro hK
    go_simp
    refine hK _ ?_
    clear hK K
  iterate 2
    apply exV_ex rfl ?_ (fun K hK => ?_)
    any_goals
      intro W hC
      obtain ⟨q0, q1, q2, q3, q4⟩ := lq5 hC.1
      go_simp
      all_goals exact ⟨Below.refl _ _, rfl⟩
    any_goals
      revert hK
      intro hK
      go_simp
      refine hK _ ?_
      clear hK K
  iterate 8
    apply exV_exg ?_ (fun K hK => ?_)
    any_goals
      intro W hC
      first | exact relOp_off rfl rfl rfl rfl | exact relOp_none rfl rfl rfl | skip
      all_goals
        refine relOp_on rfl rfl ?_
        obtain ⟨q0, q1, q2, q3, q4⟩ := lq5 hC.1
        go_simp
        all_goals exact ⟨Below.refl _ _, rfl⟩
    any_goals
      revert hK
      intro hK
      go_simp
      refine hK _ ?_
      clear hK K
  iterate 2
    apply exV_ex rfl ?_ (fun K hK => ?_)
    any_goals
      intro W hC
      obtain ⟨q0, q1, q2, q3, q4⟩ := lq5 hC.1
      go_simp
      all_goals exact ⟨Below.refl _ _, rfl⟩
    any_goals
      revert hK
      intro hK
      go_simp
      refine hK _ ?_
      clear hK K
  iterate 2
    apply exV_exg ?_ (fun K hK => ?_)
    any_goals
      intro W hC
      first | exact relOp_off rfl rfl rfl rfl | exact relOp_none rfl rfl rfl | skip
      all_goals
        refine relOp_on rfl rfl ?_
        obtain ⟨q0, q1, q2, q3, q4⟩ := lq5 hC.1
        go_simp
        all_goals exact ⟨Below.refl _ _, rfl⟩
    any_goals
      revert hK
      intro hK
      go_simp
      refine hK _ ?_
      clear hK K
  apply exV_exg ?_ (fun K hK => ?_)
  any_goals
    intro W hC
    first | exact relOp_off rfl rfl rfl rfl | exact relOp_none rfl rfl rfl | skip
    all_goals
      refine relOp_on rfl rfl ?_
      obtain ⟨q0, q1, q2, q3, q4⟩ := lq5 hC.1
      go_simp
      all_goals exact (HF.out W).mono fun e w' ⟨he, hb⟩ => ⟨he, hb⟩
  any_goals
    revert hK
    intro hK
    go_simp
    refine hK _ ?_
    clear hK K
  apply exV_ex rfl ?_ (fun K hK => ?_)
  any_goals
    intro W hC
    obtain ⟨q0, q1, q2, q3, q4⟩ := lq5 hC.1
    go_simp
    all_goals exact ⟨Below.refl _ _, rfl⟩
  any_goals
    revert hK
    intro hK
    go_simp
    refine hK _ ?_
    clear hK K
  apply exV_end
  intro W hC
  clear HB1
  obtain ⟨hB, hBw⟩ := hC
  have HB2 := Lib.hid hBw
  clear hB hBw
  go_wp2_with fail
  refine (must_no _ _).mono ?_
  rintro e w3 ⟨rfl, rfl⟩
  exact ⟨rfl, rfl, HB2.out⟩

set_option maxRecDepth 100000 in
set_option maxHeartbeats 1000000 in
theorem line_fmt2 (off kd sv : Int) (sn sf : ByteArray) (is : Bool) (y m d1 d2 d3 h1 h2 : Int) (w : World) (ao : ByteArray) (hk : decide (0 ≤ kd) = true) (hk2 : decide (kd ≤ 2) = true) (ha : (kd == 1) = false) (hsv : (sv == 0) = true) (hc : (kd == 2) = true) (HS : Hid (∀ W, Calls Tryz.prog 55 #[.string sn] W fun e w' => e = .returned (.bool true) ∧ Below W.heap.size W w')) (HF : Hid (∀ W, Calls Tryz.prog 98 #[.string sf] W fun e w' => e = .returned (.bool false) ∧ Below W.heap.size W w'))
    (HA : Hid (∀ W, Below w.heap.size w W → Calls Tryz.prog 96 #[.int .i64 off] W fun e w' => e = .returned (.string ao) ∧ Below W.heap.size W w')) :
    Calls Tryz.prog 64 #[.agg #[.int .i64 off, .int .i64 kd, .int .i64 sv, .string sn, .string sf, .bool is, .int .i64 y, .int .i64 m, .int .i64 d1, .int .i64 d2, .int .i64 d3, .int .i64 h1, .int .i64 h2]] w fun e w' => e = Fails 2 ∧ Below w.heap.size w w' := by
  have hB0 := (Below.refl w.heap.size w).alloc (Nat.le_refl _) (.cells #[.int .i64 off, .int .i64 kd, .int .i64 sv, .string sn, .string sf, .bool is, .int .i64 y, .int .i64 m, .int .i64 d1, .int .i64 d2, .int .i64 d3, .int .i64 h1, .int .i64 h2] 55)
  have HB0 := Lib.hid (And.intro (Blk.new' w 55 #[.int .i64 off, .int .i64 kd, .int .i64 sv, .string sn, .string sf, .bool is, .int .i64 y, .int .i64 m, .int .i64 d1, .int .i64 d2, .int .i64 d3, .int .i64 h1, .int .i64 h2] rfl) hB0)
  clear hB0
  go_enter Tryz.func64, Tryz.ntmps64
  go_wp2_with fail
  refine (HA.out _ HB0.out.2).mono ?_
  rintro e w1 ⟨rfl, hb1⟩
  have HB1 := Lib.hid (And.intro (HB0.out.1.below hb1 HB0.out.1.lt) (HB0.out.2.trans (hb1.mono HB0.out.2.size)))
  clear hb1 HB0 HA
  go_wp2_with fail
  refine wp_region_vals 42 (fun W => Blk W w.heap.size 55 #[.int .i64 off, .int .i64 kd, .int .i64 sv, .string sn, .string sf, .bool is, .int .i64 y, .int .i64 m, .int .i64 d1, .int .i64 d2, .int .i64 d3, .int .i64 h1, .int .i64 h2] ∧ Below w.heap.size w W) (by kernel_rfl) (by kernel_rfl) rfl (⟨HB1.out.1, HB1.out.2.drew⟩) (fun W W' h hb => ⟨h.1.below hb h.1.lt, h.2.trans (hb.mono h.2.size)⟩) ?_
  iterate 4
    apply exV_ex rfl ?_ (fun K hK => ?_)
    any_goals
      intro W hC
      obtain ⟨q0, q1, q2, q3, q4⟩ := lq5 hC.1
      go_simp
      all_goals exact ⟨Below.refl _ _, rfl⟩
    any_goals
      revert hK
      intro hK
      go_simp
      refine hK _ ?_
      clear hK K
  iterate 3
    apply exV_exg ?_ (fun K hK => ?_)
    any_goals
      intro W hC
      first | exact relOp_off rfl rfl rfl rfl | exact relOp_none rfl rfl rfl | skip
      all_goals
        refine relOp_on rfl rfl ?_
        obtain ⟨q0, q1, q2, q3, q4⟩ := lq5 hC.1
        go_simp
        all_goals exact ⟨Below.refl _ _, rfl⟩
    any_goals
      revert hK
      intro hK
      go_simp
      refine hK _ ?_
      clear hK K
  iterate 2
    apply exV_ex rfl ?_ (fun K hK => ?_)
    any_goals
      intro W hC
      obtain ⟨q0, q1, q2, q3, q4⟩ := lq5 hC.1
      go_simp
      all_goals exact ⟨Below.refl _ _, rfl⟩
    any_goals
      revert hK
      intro hK
      go_simp
      refine hK _ ?_
      clear hK K
  iterate 8
    apply exV_exg ?_ (fun K hK => ?_)
    any_goals
      intro W hC
      first | exact relOp_off rfl rfl rfl rfl | exact relOp_none rfl rfl rfl | skip
      all_goals
        refine relOp_on rfl rfl ?_
        obtain ⟨q0, q1, q2, q3, q4⟩ := lq5 hC.1
        go_simp
        all_goals exact ⟨Below.refl _ _, rfl⟩
    any_goals
      revert hK
      intro hK
      go_simp
      refine hK _ ?_
      clear hK K
  iterate 2
    apply exV_ex rfl ?_ (fun K hK => ?_)
    any_goals
      intro W hC
      obtain ⟨q0, q1, q2, q3, q4⟩ := lq5 hC.1
      go_simp
      all_goals exact ⟨Below.refl _ _, rfl⟩
    any_goals
      revert hK
      intro hK
      go_simp
      refine hK _ ?_
      clear hK K
  iterate 5
    apply exV_exg ?_ (fun K hK => ?_)
    any_goals
      intro W hC
      first | exact relOp_off rfl rfl rfl rfl | exact relOp_none rfl rfl rfl | skip
      all_goals
        refine relOp_on rfl rfl ?_
        obtain ⟨q0, q1, q2, q3, q4⟩ := lq5 hC.1
        go_simp
        all_goals exact ⟨Below.refl _ _, rfl⟩
    any_goals
      revert hK
      intro hK
      go_simp
      refine hK _ ?_
      clear hK K
  apply exV_exg ?_ (fun K hK => ?_)
  any_goals
    intro W hC
    first | exact relOp_off rfl rfl rfl rfl | exact relOp_none rfl rfl rfl | skip
    all_goals
      refine relOp_on rfl rfl ?_
      obtain ⟨q0, q1, q2, q3, q4⟩ := lq5 hC.1
      go_simp
      all_goals exact (HS.out W).mono fun e w' ⟨he, hb⟩ => ⟨he, hb⟩
  any_goals
    revert hK
    intro hK
    go_simp
    refine hK _ ?_
    clear hK K
  apply exV_exg ?_ (fun K hK => ?_)
  any_goals
    intro W hC
    first | exact relOp_off rfl rfl rfl rfl | exact relOp_none rfl rfl rfl | skip
    all_goals
      refine relOp_on rfl rfl ?_
      obtain ⟨q0, q1, q2, q3, q4⟩ := lq5 hC.1
      go_simp
      all_goals exact ⟨Below.refl _ _, rfl⟩
  any_goals
    revert hK
    intro hK
    go_simp
    refine hK _ ?_
    clear hK K
  iterate 2
    apply exV_ex rfl ?_ (fun K hK => ?_)
    any_goals
      intro W hC
      obtain ⟨q0, q1, q2, q3, q4⟩ := lq5 hC.1
      go_simp
      all_goals exact ⟨Below.refl _ _, rfl⟩
    any_goals
      revert hK
      intro hK
      go_simp
      refine hK _ ?_
      clear hK K
  iterate 8
    apply exV_exg ?_ (fun K hK => ?_)
    any_goals
      intro W hC
      first | exact relOp_off rfl rfl rfl rfl | exact relOp_none rfl rfl rfl | skip
      all_goals
        refine relOp_on rfl rfl ?_
        obtain ⟨q0, q1, q2, q3, q4⟩ := lq5 hC.1
        go_simp
        all_goals exact ⟨Below.refl _ _, rfl⟩
    any_goals
      revert hK
      intro hK
      go_simp
      refine hK _ ?_
      clear hK K
  iterate 2
    apply exV_ex rfl ?_ (fun K hK => ?_)
    any_goals
      intro W hC
      obtain ⟨q0, q1, q2, q3, q4⟩ := lq5 hC.1
      go_simp
      all_goals exact ⟨Below.refl _ _, rfl⟩
    any_goals
      revert hK
      intro hK
      go_simp
      refine hK _ ?_
      clear hK K
  iterate 2
    apply exV_exg ?_ (fun K hK => ?_)
    any_goals
      intro W hC
      first | exact relOp_off rfl rfl rfl rfl | exact relOp_none rfl rfl rfl | skip
      all_goals
        refine relOp_on rfl rfl ?_
        obtain ⟨q0, q1, q2, q3, q4⟩ := lq5 hC.1
        go_simp
        all_goals exact ⟨Below.refl _ _, rfl⟩
    any_goals
      revert hK
      intro hK
      go_simp
      refine hK _ ?_
      clear hK K
  apply exV_exg ?_ (fun K hK => ?_)
  any_goals
    intro W hC
    first | exact relOp_off rfl rfl rfl rfl | exact relOp_none rfl rfl rfl | skip
    all_goals
      refine relOp_on rfl rfl ?_
      obtain ⟨q0, q1, q2, q3, q4⟩ := lq5 hC.1
      go_simp
      all_goals exact (HF.out W).mono fun e w' ⟨he, hb⟩ => ⟨he, hb⟩
  any_goals
    revert hK
    intro hK
    go_simp
    refine hK _ ?_
    clear hK K
  apply exV_ex rfl ?_ (fun K hK => ?_)
  any_goals
    intro W hC
    obtain ⟨q0, q1, q2, q3, q4⟩ := lq5 hC.1
    go_simp
    all_goals exact ⟨Below.refl _ _, rfl⟩
  any_goals
    revert hK
    intro hK
    go_simp
    refine hK _ ?_
    clear hK K
  apply exV_end
  intro W hC
  clear HB1
  obtain ⟨hB, hBw⟩ := hC
  have HB2 := Lib.hid hBw
  clear hB hBw
  go_wp2_with fail
  refine (must_no _ _).mono ?_
  rintro e w3 ⟨rfl, rfl⟩
  exact ⟨rfl, rfl, HB2.out⟩

end Go.Proofs.YtmcgbjjcpcgcfaaGreatDoor
