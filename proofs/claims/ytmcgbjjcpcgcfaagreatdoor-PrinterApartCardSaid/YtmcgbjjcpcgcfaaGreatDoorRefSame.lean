/-
  The reference's Same (layer 14): what the calls return.
-/
import Derived.Test.YtmcgbjjcpcgcfaaGreatDoorPCopies
set_option linter.unusedVariables false
namespace Go.Proofs.YtmcgbjjcpcgcfaaGreatDoor
open Go.RowKit Go.Shelf

set_option maxRecDepth 100000 in
set_option maxHeartbeats 2000000 in
theorem rzones_any (xs ys : List (ZoneP × Value)) (v u : Value) (w : World) (h1 : RowsAt w w.heap.size 2 encZ v xs) (h2 : RowsAt w w.heap.size 2 encZ u ys) (q1 : ∀ q ∈ xs, RowsAt w w.heap.size 13 EraP.cells q.2 q.1.eras ∧ q.1.eras.length ≤ 1048576) (q2 : ∀ q ∈ ys, RowsAt w w.heap.size 13 EraP.cells q.2 q.1.eras ∧ q.1.eras.length ≤ 1048576) (hl : xs.length ≤ 1048576) (hl2 : ys.length ≤ 1048576) :
    Calls Tryz.prog 38 #[v, u] w fun e w' => e = .returned (.bool (decide (xs.map (fun q => q.1) = ys.map (fun q => q.1)))) ∧ Below w.heap.size w w' := by
  obtain ⟨p1, c1, rfl, r1⟩ := h1
  obtain ⟨p2, c2, rfl, r2⟩ := h2
  have hTe : (Tryz.prog.info? 55).map (·.size) = some 13 := by kernel_rfl
  by_cases hn : xs.length = ys.length
  · rw [hn] at hl ⊢
    have HR1 := Lib.hid r1
    have HR2 := Lib.hid r2
    have HQ1 := Lib.hid q1
    have HQ2 := Lib.hid q2
    clear r1 r2 q1 q2
    go_enter Tryz.func38, Tryz.ntmps38
    go_wp2_with fail
    go_loopw [5, 6] (fun i _ wr => ∃ k : Nat, k ≤ ys.length ∧ i = .int .i64 (k : Int) ∧ Hid ((xs.map fun q => q.1).take k = (ys.map fun q => q.1).take k) ∧ Below w.heap.size w wr) (fun i _ _ => ys.length - (intOf i).toNat)
    case atStart => exact ⟨0, Nat.zero_le _, rfl, Lib.hid rfl, Below.refl _ _⟩
    case round =>
      obtain ⟨k, hk, rfl, HA, hB⟩ := hrel
      by_cases hlt : k < ys.length
      · obtain ⟨x, hx⟩ : ∃ x, xs[k]? = some x := ⟨_, List.getElem?_eq_getElem (by omega)⟩
        obtain ⟨y, hy⟩ : ∃ y, ys[k]? = some y := ⟨_, List.getElem?_eq_getElem hlt⟩
        obtain ⟨b1, o1, rfl, hb1, ha1⟩ := HR1.out (by intro h; rw [h] at hn; simp at hn; omega)
        obtain ⟨b2, o2, rfl, hb2, ha2⟩ := HR2.out (by intro h; rw [h] at hlt; simp at hlt)
        have hd : decide ((k : Int) < (ys.length : Int)) = true := by simp; omega
        have k0 : (0 : Int) ≤ (k : Int) := by omega
        have kl : (k : Int) < (ys.length : Int) := by omega
        have HX := Lib.hid (show (xs.map fun q => q.1)[k]? = some x.1 by rw [List.getElem?_map, hx]; rfl)
        have HY := Lib.hid (show (ys.map fun q => q.1)[k]? = some y.1 by rw [List.getElem?_map, hy]; rfl)
        obtain ⟨pe1, ce1, hv1, hra1⟩ := (HQ1.out x (List.mem_of_getElem? hx)).1
        obtain ⟨pe2, ce2, hv2, hra2⟩ := (HQ2.out y (List.mem_of_getElem? hy)).1
        have hlx := (HQ1.out x (List.mem_of_getElem? hx)).2
        have hly := (HQ2.out y (List.mem_of_getElem? hy)).2
        have hn1 : ∀ W, Below w.heap.size w W → W.cell? ⟨b1, o1 + k * 2, none⟩ = some (.string ⟨x.1.name.toArray⟩) := fun W hW => (hW.cell (p := ⟨b1, o1 + k * 2, none⟩) hb1).trans (ha1 k x hx 0 _ rfl)
        have hn2 : ∀ W, Below w.heap.size w W → W.cell? ⟨b2, o2 + k * 2, none⟩ = some (.string ⟨y.1.name.toArray⟩) := fun W hW => (hW.cell (p := ⟨b2, o2 + k * 2, none⟩) hb2).trans (ha2 k y hy 0 _ rfl)
        have he1 : ∀ W, Below w.heap.size w W → W.cell? ⟨b1, o1 + k * 2 + 1, none⟩ = some (.slice pe1 x.1.eras.length ce1) := fun W hW => (hW.cell (p := ⟨b1, o1 + k * 2 + 1, none⟩) hb1).trans ((ha1 k x hx 1 x.2 rfl).trans (by rw [hv1]))
        have he2 : ∀ W, Below w.heap.size w W → W.cell? ⟨b2, o2 + k * 2 + 1, none⟩ = some (.slice pe2 y.1.eras.length ce2) := fun W hW => (hW.cell (p := ⟨b2, o2 + k * 2 + 1, none⟩) hb2).trans ((ha2 k y hy 1 y.2 rfl).trans (by rw [hv2]))
        have HE1 := Lib.hid hra1
        have HE2 := Lib.hid hra2
        clear ha1 ha2 HR1 HR2 hx hy hv1 hv2 hra1 hra2 HQ1 HQ2
        obtain ⟨⟨xn, xe⟩, xv⟩ := x
        obtain ⟨⟨yn, ye⟩, yv⟩ := y
        simp only at hn1 hn2 he1 he2 HX HY HE1 HE2 hlx hly
        by_cases hnm : xn = yn
        · subst hnm
          by_cases hle : xe.length = ye.length
          · rw [hle] at he1 hlx
            go_upto_region 6 with fail
            refine wp_region_vals 26 (fun W => Below w.heap.size w W) (by kernel_rfl) (by kernel_rfl) rfl hB.drew (fun W W' h hb => h.trans (hb.mono h.size)) ?_
            iterate 10
              apply exV_ex rfl ?_ (fun K hK => ?_)
              any_goals
                intro W hC
                have s1 := hn1 W hC
                have s2 := hn2 W hC
                have s3 := he1 W hC
                have s4 := he2 W hC
                go_simp
                all_goals first | exact ⟨Below.refl _ _, rfl⟩ | exact Below.refl _ _
              any_goals
                revert hK
                intro hK
                go_simp
                refine hK _ ?_
                clear hK K
            refine exV_ex (v := .bool false) rfl (fun W hC => ?_) (fun K hK => ?_)
            · have s1 := hn1 W hC
              have s2 := hn2 W hC
              have s3 := he1 W hC
              have s4 := he2 W hC
              go_simp
              first | exact ⟨Below.refl _ _, rfl⟩ | exact Below.refl _ _
            revert hK
            intro hK
            go_simp
            refine hK _ ?_
            clear hK K
            apply exV_ex rfl ?_ (fun K hK => ?_)
            any_goals
              intro W hC
              have s1 := hn1 W hC
              have s2 := hn2 W hC
              have s3 := he1 W hC
              have s4 := he2 W hC
              go_simp
              all_goals first | exact ⟨Below.refl _ _, rfl⟩ | exact Below.refl _ _
            any_goals
              revert hK
              intro hK
              go_simp
              refine hK _ ?_
              clear hK K
            iterate 12
              apply exV_exg ?_ (fun K hK => ?_)
              any_goals
                intro W hC
                first | exact relOp_off rfl rfl rfl rfl | exact relOp_none rfl rfl rfl | skip
                all_goals
                  refine relOp_on rfl rfl ?_
                  have s1 := hn1 W hC
                  have s2 := hn2 W hC
                  have s3 := he1 W hC
                  have s4 := he2 W hC
                  go_simp
                  all_goals first | exact ⟨Below.refl _ _, rfl⟩ | exact Below.refl _ _
              any_goals
                revert hK
                intro hK
                go_simp
                refine hK _ ?_
                clear hK K
            refine exV_exg (v := .bool false) (fun W hC => ?_) (fun K hK => ?_)
            · refine relOp_on rfl rfl ?_
              have s1 := hn1 W hC
              have s2 := hn2 W hC
              have s3 := he1 W hC
              have s4 := he2 W hC
              go_simp
              first | exact ⟨Below.refl _ _, rfl⟩ | exact Below.refl _ _
            revert hK
            intro hK
            go_simp
            refine hK _ ?_
            clear hK K
            apply exV_ex rfl ?_ (fun K hK => ?_)
            any_goals
              intro W hC
              have s1 := hn1 W hC
              have s2 := hn2 W hC
              have s3 := he1 W hC
              have s4 := he2 W hC
              go_simp
              all_goals first | exact ⟨Below.refl _ _, rfl⟩ | exact Below.refl _ _
            any_goals
              revert hK
              intro hK
              go_simp
              refine hK _ ?_
              clear hK K
            refine exV_end fun W hC => (wpList_nil ?_)
            clear hn1 hn2
            go_wp2_with fail
            go_loopw [6] (fun j wq => ∃ m : Nat, m ≤ ye.length ∧ j = .int .i64 (m : Int) ∧ Hid (xe.take m = ye.take m) ∧ Below w.heap.size w wq) (fun j _ => ye.length - (intOf j).toNat)
            case atStart => exact ⟨0, Nat.zero_le _, rfl, Lib.hid rfl, hC⟩
            case round =>
              clear hC
              obtain ⟨m, hm, rfl, HA2, hB2⟩ := hrel
              have s3 := he1 _ hB2
              by_cases hmt : m < ye.length
              · obtain ⟨e1, hx⟩ : ∃ x, xe[m]? = some x := ⟨_, List.getElem?_eq_getElem (by omega)⟩
                obtain ⟨e2, hy⟩ : ∃ y, ye[m]? = some y := ⟨_, List.getElem?_eq_getElem hmt⟩
                obtain ⟨eb1, eo1, rfl, hbb1, haa1⟩ := HE1.out (by intro h; rw [h] at hle; simp at hle; omega)
                obtain ⟨eb2, eo2, rfl, hbb2, haa2⟩ := HE2.out (by intro h; rw [h] at hmt; simp at hmt)
                have hr1 : ∀ W, Below w.heap.size w W → W.rangeAt eb1 (eo1 + m * 13) e1.cells.toList := fun W hW j v hv => (hW.cell (p := ⟨eb1, eo1 + m * 13 + j, none⟩) hbb1).trans (haa1 m e1 hx j v hv)
                have hr2 : ∀ W, Below w.heap.size w W → W.rangeAt eb2 (eo2 + m * 13) e2.cells.toList := fun W hW j v hv => (hW.cell (p := ⟨eb2, eo2 + m * 13 + j, none⟩) hbb2).trans (haa2 m e2 hy j v hv)
                have hd2 : decide ((m : Int) < (ye.length : Int)) = true := by simp; omega
                have m0 : (0 : Int) ≤ (m : Int) := by omega
                have ml : (m : Int) < (ye.length : Int) := by omega
                have HX2 := Lib.hid hx
                have HY2 := Lib.hid hy
                clear haa1 haa2 hx hy HE1 HE2
                by_cases hxy : e1 = e2
                · subst hxy
                  have HT := Lib.hid (take_eq HA2.out HX2.out HY2.out rfl)
                  obtain ⟨of1, kd1, sv1, st1, fm1, ⟨is1, y1, m1, ⟨d11, d21, d31⟩, ⟨h11, h21⟩⟩⟩ := e1
                  simp only [EraP.cells] at hr1 hr2
                  clear HX2 HY2 HA2
                  go_wp2_with fail
                  refine wp_region_vals 17 (fun W => Below w.heap.size w W) (by kernel_rfl) (by kernel_rfl) rfl hB2.drew (fun W W' h hb => h.trans (hb.mono h.size)) ?_
                  iterate 7
                    apply exV_ex rfl ?_ (fun K hK => ?_)
                    any_goals
                      intro W hC
                      have s3 := he1 W hC
                      have s4 := he2 W hC
                      go_simp
                      all_goals first | exact ⟨Below.refl _ _, rfl⟩ | exact Below.refl _ _
                    any_goals
                      revert hK
                      intro hK
                      go_simp
                      refine hK _ ?_
                      clear hK K
                  refine exV_ex rfl (fun W hC => relAt_load_arr 55 (.tmp 60) rfl eb1 (eo1 + m * 13) rfl #[.int .i64 of1, .int .i64 kd1, .int .i64 sv1, .string ⟨st1.toArray⟩, .string ⟨fm1.toArray⟩, .bool is1, .int .i64 y1, .int .i64 m1, .int .i64 d11, .int .i64 d21, .int .i64 d31, .int .i64 h11, .int .i64 h21] _ (hr1 W hC) Tryz.underlying55 rfl hTe) (fun K hK => ?_)
                  revert hK
                  intro hK
                  go_simp
                  refine hK _ ?_
                  clear hK K
                  iterate 7
                    apply exV_ex rfl ?_ (fun K hK => ?_)
                    any_goals
                      intro W hC
                      have s3 := he1 W hC
                      have s4 := he2 W hC
                      go_simp
                      all_goals first | exact ⟨Below.refl _ _, rfl⟩ | exact Below.refl _ _
                    any_goals
                      revert hK
                      intro hK
                      go_simp
                      refine hK _ ?_
                      clear hK K
                  refine exV_ex rfl (fun W hC => relAt_load_arr 55 (.tmp 68) rfl eb2 (eo2 + m * 13) rfl #[.int .i64 of1, .int .i64 kd1, .int .i64 sv1, .string ⟨st1.toArray⟩, .string ⟨fm1.toArray⟩, .bool is1, .int .i64 y1, .int .i64 m1, .int .i64 d11, .int .i64 d21, .int .i64 d31, .int .i64 h11, .int .i64 h21] _ (hr2 W hC) Tryz.underlying55 rfl hTe) (fun K hK => ?_)
                  revert hK
                  intro hK
                  go_simp
                  refine hK _ ?_
                  clear hK K
                  refine exV_ex (v := .bool false) rfl (fun W hC => ?_) (fun K hK => ?_)
                  · have s3 := he1 W hC
                    have s4 := he2 W hC
                    go_simp
                    first | exact ⟨Below.refl _ _, rfl⟩ | exact Below.refl _ _
                  revert hK
                  intro hK
                  go_simp
                  refine hK _ ?_
                  clear hK K
                  refine exV_end fun W hC => (wpList_nil ?_)
                  go_wp2_with fail
                  go_roundw
                  case rel => exact ⟨m + 1, by omega, by go_num, HT, hC⟩
                  case measure => simp [intOf]; omega
                · have HF := Lib.hid (take_ne HX.out HY.out (show (⟨xn, xe⟩ : ZoneP) ≠ ⟨xn, ye⟩ from fun h => take_ne HX2.out HY2.out hxy (ZoneP.mk.inj h).2))
                  obtain ⟨of1, kd1, sv1, st1, fm1, ⟨is1, y1, m1, ⟨d11, d21, d31⟩, ⟨h11, h21⟩⟩⟩ := e1
                  obtain ⟨of2, kd2, sv2, st2, fm2, ⟨is2, y2, m2, ⟨d12, d22, d32⟩, ⟨h12, h22⟩⟩⟩ := e2
                  simp only [EraP.cells] at hr1 hr2
                  clear HX2 HY2 HA2 HX HY HA
                  go_wp2_with fail
                  refine wp_region_vals 17 (fun W => Below w.heap.size w W) (by kernel_rfl) (by kernel_rfl) rfl hB2.drew (fun W W' h hb => h.trans (hb.mono h.size)) ?_
                  iterate 7
                    apply exV_ex rfl ?_ (fun K hK => ?_)
                    any_goals
                      intro W hC
                      have s3 := he1 W hC
                      have s4 := he2 W hC
                      go_simp
                      all_goals first | exact ⟨Below.refl _ _, rfl⟩ | exact Below.refl _ _
                    any_goals
                      revert hK
                      intro hK
                      go_simp
                      refine hK _ ?_
                      clear hK K
                  refine exV_ex rfl (fun W hC => relAt_load_arr 55 (.tmp 60) rfl eb1 (eo1 + m * 13) rfl #[.int .i64 of1, .int .i64 kd1, .int .i64 sv1, .string ⟨st1.toArray⟩, .string ⟨fm1.toArray⟩, .bool is1, .int .i64 y1, .int .i64 m1, .int .i64 d11, .int .i64 d21, .int .i64 d31, .int .i64 h11, .int .i64 h21] _ (hr1 W hC) Tryz.underlying55 rfl hTe) (fun K hK => ?_)
                  revert hK
                  intro hK
                  go_simp
                  refine hK _ ?_
                  clear hK K
                  iterate 7
                    apply exV_ex rfl ?_ (fun K hK => ?_)
                    any_goals
                      intro W hC
                      have s3 := he1 W hC
                      have s4 := he2 W hC
                      go_simp
                      all_goals first | exact ⟨Below.refl _ _, rfl⟩ | exact Below.refl _ _
                    any_goals
                      revert hK
                      intro hK
                      go_simp
                      refine hK _ ?_
                      clear hK K
                  refine exV_ex rfl (fun W hC => relAt_load_arr 55 (.tmp 68) rfl eb2 (eo2 + m * 13) rfl #[.int .i64 of2, .int .i64 kd2, .int .i64 sv2, .string ⟨st2.toArray⟩, .string ⟨fm2.toArray⟩, .bool is2, .int .i64 y2, .int .i64 m2, .int .i64 d12, .int .i64 d22, .int .i64 d32, .int .i64 h12, .int .i64 h22] _ (hr2 W hC) Tryz.underlying55 rfl hTe) (fun K hK => ?_)
                  revert hK
                  intro hK
                  go_simp
                  refine hK _ ?_
                  clear hK K
                  refine exV_ex (v := .bool true) rfl (fun W hC => ?_) (fun K hK => ?_)
                  · have s3 := he1 W hC
                    have s4 := he2 W hC
                    go_simp
                    by_cases e_of : of1 = of2
                    rotate_left
                    · rw [if_neg e_of]
                      first | exact ⟨Below.refl _ _, rfl⟩ | exact Below.refl _ _
                    rw [if_pos e_of]
                    by_cases e_kd : kd1 = kd2
                    rotate_left
                    · rw [if_neg e_kd]
                      first | exact ⟨Below.refl _ _, rfl⟩ | exact Below.refl _ _
                    rw [if_pos e_kd]
                    by_cases e_sv : sv1 = sv2
                    rotate_left
                    · rw [if_neg e_sv]
                      first | exact ⟨Below.refl _ _, rfl⟩ | exact Below.refl _ _
                    rw [if_pos e_sv]
                    by_cases e_st : st1 = st2
                    rotate_left
                    · rw [if_neg e_st]
                      first | exact ⟨Below.refl _ _, rfl⟩ | exact Below.refl _ _
                    rw [if_pos e_st]
                    by_cases e_fm : fm1 = fm2
                    rotate_left
                    · rw [if_neg e_fm]
                      first | exact ⟨Below.refl _ _, rfl⟩ | exact Below.refl _ _
                    rw [if_pos e_fm]
                    by_cases e_is : is1 = is2
                    rotate_left
                    · rw [if_neg e_is]
                      first | exact ⟨Below.refl _ _, rfl⟩ | exact Below.refl _ _
                    rw [if_pos e_is]
                    by_cases e_y : y1 = y2
                    rotate_left
                    · rw [if_neg e_y]
                      first | exact ⟨Below.refl _ _, rfl⟩ | exact Below.refl _ _
                    rw [if_pos e_y]
                    by_cases e_m : m1 = m2
                    rotate_left
                    · rw [if_neg e_m]
                      first | exact ⟨Below.refl _ _, rfl⟩ | exact Below.refl _ _
                    rw [if_pos e_m]
                    by_cases e_d1 : d11 = d12
                    rotate_left
                    · rw [if_neg e_d1]
                      first | exact ⟨Below.refl _ _, rfl⟩ | exact Below.refl _ _
                    rw [if_pos e_d1]
                    by_cases e_d2 : d21 = d22
                    rotate_left
                    · rw [if_neg e_d2]
                      first | exact ⟨Below.refl _ _, rfl⟩ | exact Below.refl _ _
                    rw [if_pos e_d2]
                    by_cases e_d3 : d31 = d32
                    rotate_left
                    · rw [if_neg e_d3]
                      first | exact ⟨Below.refl _ _, rfl⟩ | exact Below.refl _ _
                    rw [if_pos e_d3]
                    by_cases e_h1 : h11 = h12
                    rotate_left
                    · rw [if_neg e_h1]
                      first | exact ⟨Below.refl _ _, rfl⟩ | exact Below.refl _ _
                    rw [if_pos e_h1]
                    by_cases e_h2 : h21 = h22
                    rotate_left
                    · rw [if_neg e_h2]
                      first | exact ⟨Below.refl _ _, rfl⟩ | exact Below.refl _ _
                    rw [if_pos e_h2]
                    exact absurd (by subst_vars; rfl) hxy
                  revert hK
                  intro hK
                  go_simp
                  refine hK _ ?_
                  clear hK K
                  refine exV_end fun W hC => (wpList_nil ?_)
                  go_wp2_with fail
                  go_ret
                  exact ⟨by rw [decide_eq_false HF.out]; rfl, hC⟩
              · obtain rfl : m = ye.length := by omega
                have hd2 : decide ((ye.length : Int) < (ye.length : Int)) = false := by simp
                have HT := Lib.hid (take_eq HA.out HX.out HY.out (show (⟨xn, xe⟩ : ZoneP) = ⟨xn, ye⟩ from by
                  have h := HA2.out
                  rw [List.take_length, List.take_of_length_le (by omega)] at h
                  rw [h]))
                clear HA2 HA HX HY
                go_wp2_with fail
                go_roundw
                case rel => exact ⟨k + 1, by omega, by go_num, HT, hB2⟩
                case measure => simp [intOf]; omega
          · have hlI : ((xe.length : Int) != (ye.length : Int)) = true := by rw [bne_iff_ne]; omega
            have HF := Lib.hid (take_ne HX.out HY.out (show (⟨xn, xe⟩ : ZoneP) ≠ ⟨xn, ye⟩ from fun h => hle (by rw [(ZoneP.mk.inj h).2])))
            clear HX HY HA hle
            go_upto_region 6 with fail
            refine wp_region_vals 26 (fun W => Below w.heap.size w W) (by kernel_rfl) (by kernel_rfl) rfl hB.drew (fun W W' h hb => h.trans (hb.mono h.size)) ?_
            iterate 10
              apply exV_ex rfl ?_ (fun K hK => ?_)
              any_goals
                intro W hC
                have s1 := hn1 W hC
                have s2 := hn2 W hC
                have s3 := he1 W hC
                have s4 := he2 W hC
                go_simp
                all_goals first | exact ⟨Below.refl _ _, rfl⟩ | exact Below.refl _ _
              any_goals
                revert hK
                intro hK
                go_simp
                refine hK _ ?_
                clear hK K
            refine exV_ex (v := .bool false) rfl (fun W hC => ?_) (fun K hK => ?_)
            · have s1 := hn1 W hC
              have s2 := hn2 W hC
              have s3 := he1 W hC
              have s4 := he2 W hC
              go_simp
              first | exact ⟨Below.refl _ _, rfl⟩ | exact Below.refl _ _
            revert hK
            intro hK
            go_simp
            refine hK _ ?_
            clear hK K
            apply exV_ex rfl ?_ (fun K hK => ?_)
            any_goals
              intro W hC
              have s1 := hn1 W hC
              have s2 := hn2 W hC
              have s3 := he1 W hC
              have s4 := he2 W hC
              go_simp
              all_goals first | exact ⟨Below.refl _ _, rfl⟩ | exact Below.refl _ _
            any_goals
              revert hK
              intro hK
              go_simp
              refine hK _ ?_
              clear hK K
            iterate 12
              apply exV_exg ?_ (fun K hK => ?_)
              any_goals
                intro W hC
                first | exact relOp_off rfl rfl rfl rfl | exact relOp_none rfl rfl rfl | skip
                all_goals
                  refine relOp_on rfl rfl ?_
                  have s1 := hn1 W hC
                  have s2 := hn2 W hC
                  have s3 := he1 W hC
                  have s4 := he2 W hC
                  go_simp
                  all_goals first | exact ⟨Below.refl _ _, rfl⟩ | exact Below.refl _ _
              any_goals
                revert hK
                intro hK
                go_simp
                refine hK _ ?_
                clear hK K
            refine exV_exg (v := .bool true) (fun W hC => ?_) (fun K hK => ?_)
            · refine relOp_on rfl rfl ?_
              have s1 := hn1 W hC
              have s2 := hn2 W hC
              have s3 := he1 W hC
              have s4 := he2 W hC
              go_simp
              first | exact ⟨Below.refl _ _, rfl⟩ | exact Below.refl _ _
            revert hK
            intro hK
            go_simp
            refine hK _ ?_
            clear hK K
            apply exV_ex rfl ?_ (fun K hK => ?_)
            any_goals
              intro W hC
              have s1 := hn1 W hC
              have s2 := hn2 W hC
              have s3 := he1 W hC
              have s4 := he2 W hC
              go_simp
              all_goals first | exact ⟨Below.refl _ _, rfl⟩ | exact Below.refl _ _
            any_goals
              revert hK
              intro hK
              go_simp
              refine hK _ ?_
              clear hK K
            refine exV_end fun W hC => (wpList_nil ?_)
            go_wp2_with fail
            go_ret
            exact ⟨by rw [decide_eq_false HF.out]; rfl, hC⟩
        · have HF := Lib.hid (take_ne HX.out HY.out (show (⟨xn, xe⟩ : ZoneP) ≠ ⟨yn, ye⟩ from fun h => hnm (ZoneP.mk.inj h).1))
          clear HX HY HA
          go_upto_region 6 with fail
          refine wp_region_vals 26 (fun W => Below w.heap.size w W) (by kernel_rfl) (by kernel_rfl) rfl hB.drew (fun W W' h hb => h.trans (hb.mono h.size)) ?_
          iterate 10
            apply exV_ex rfl ?_ (fun K hK => ?_)
            any_goals
              intro W hC
              have s1 := hn1 W hC
              have s2 := hn2 W hC
              have s3 := he1 W hC
              have s4 := he2 W hC
              go_simp
              all_goals first | exact ⟨Below.refl _ _, rfl⟩ | exact Below.refl _ _
            any_goals
              revert hK
              intro hK
              go_simp
              refine hK _ ?_
              clear hK K
          refine exV_ex (v := .bool true) rfl (fun W hC => ?_) (fun K hK => ?_)
          · have s1 := hn1 W hC
            have s2 := hn2 W hC
            have s3 := he1 W hC
            have s4 := he2 W hC
            go_simp
            first | exact ⟨Below.refl _ _, rfl⟩ | exact Below.refl _ _
          revert hK
          intro hK
          go_simp
          refine hK _ ?_
          clear hK K
          apply exV_ex rfl ?_ (fun K hK => ?_)
          any_goals
            intro W hC
            have s1 := hn1 W hC
            have s2 := hn2 W hC
            have s3 := he1 W hC
            have s4 := he2 W hC
            go_simp
            all_goals first | exact ⟨Below.refl _ _, rfl⟩ | exact Below.refl _ _
          any_goals
            revert hK
            intro hK
            go_simp
            refine hK _ ?_
            clear hK K
          iterate 13
            apply exV_exg ?_ (fun K hK => ?_)
            any_goals
              intro W hC
              first | exact relOp_off rfl rfl rfl rfl | exact relOp_none rfl rfl rfl | skip
              all_goals
                refine relOp_on rfl rfl ?_
                have s1 := hn1 W hC
                have s2 := hn2 W hC
                have s3 := he1 W hC
                have s4 := he2 W hC
                go_simp
                all_goals first | exact ⟨Below.refl _ _, rfl⟩ | exact Below.refl _ _
            any_goals
              revert hK
              intro hK
              go_simp
              refine hK _ ?_
              clear hK K
          apply exV_ex rfl ?_ (fun K hK => ?_)
          any_goals
            intro W hC
            have s1 := hn1 W hC
            have s2 := hn2 W hC
            have s3 := he1 W hC
            have s4 := he2 W hC
            go_simp
            all_goals first | exact ⟨Below.refl _ _, rfl⟩ | exact Below.refl _ _
          any_goals
            revert hK
            intro hK
            go_simp
            refine hK _ ?_
            clear hK K
          refine exV_end fun W hC => (wpList_nil ?_)
          go_wp2_with fail
          go_ret
          exact ⟨by rw [decide_eq_false HF.out]; rfl, hC⟩
      · obtain rfl : k = ys.length := by omega
        have hd : decide ((ys.length : Int) < (ys.length : Int)) = false := by simp
        have HT := Lib.hid (show (xs.map fun q => q.1) = (ys.map fun q => q.1) from by
          have h := HA.out
          rwa [List.take_of_length_le (by simp; omega), List.take_of_length_le (by simp)] at h)
        clear HA HR1 HR2 hlt hk HQ1 HQ2
        go_wp2_with fail
        go_ret
        exact ⟨by rw [decide_eq_true HT.out]; rfl, hB⟩
  · have hnI : ((xs.length : Int) != (ys.length : Int)) = true := by rw [bne_iff_ne]; omega
    have HF := Lib.hid (show (xs.map fun q => q.1) ≠ (ys.map fun q => q.1) from fun h => hn (by have := congrArg List.length h; simpa using this))
    clear r1 r2 hn q1 q2
    go_enter Tryz.func38, Tryz.ntmps38
    go_wp2_with fail
    go_ret
    exact ⟨by rw [decide_eq_false HF.out]; rfl, Below.refl _ _⟩

def R2 (w : World) (C1 C2 : Array Value) (W : World) : Prop := Blk W w.heap.size 27 C1 ∧ Blk W (w.heap.size + 1) 27 C2 ∧ Below w.heap.size w W
theorem R2.below {w W W' : World} {C1 C2 : Array Value} (h : R2 w C1 C2 W) (hb : Below W.heap.size W W') : R2 w C1 C2 W' := ⟨h.1.below hb h.1.lt, h.2.1.below hb h.2.1.lt, h.2.2.trans (hb.mono h.2.2.size)⟩
theorem R2.drew {w W : World} {C1 C2 : Array Value} (h : R2 w C1 C2 W) : R2 w C1 C2 W.drew := ⟨h.1, h.2.1, h.2.2.drew⟩
set_option maxRecDepth 100000 in
set_option maxHeartbeats 2000000 in
theorem r14same_any (r z l h r' z' l' h' : Value) (zs zs' : List (ZoneP × Value)) (s s' : SourceP) (w : World) (k1 : SrcIs w w.heap.size r z l h zs s) (k2 : SrcIs w w.heap.size r' z' l' h' zs' s') (n1 : SrcLn s) (n2 : SrcLn s') :
    Calls Tryz.prog 13 #[.agg #[r, z, l, h], .agg #[r', z', l', h']] w fun e w' => e = .returned (.bool (decide (s = s'))) ∧ Below w.heap.size w w' := by
  have HB0 := Lib.hid (show R2 w #[r, z, l, h] #[r', z', l', h'] ((w.alloc (.cells #[r, z, l, h] 27)).alloc (.cells #[r', z', l', h'] 27)) from ⟨(Blk.new' _ _ _ rfl).alloc _, Blk.new' _ _ _ (by simp), ((Below.refl _ _).alloc (Nat.le_refl _) _).alloc (by simp) _⟩)
  have H2 := Lib.hid (show ∀ W, Below w.heap.size w W → Calls Tryz.prog 38 #[z, z'] W fun e w' => e = .returned (.bool (decide (s.zones = s'.zones))) ∧ Below W.heap.size W w' from fun W hW => by
    have q1 := k1.now hW
    have q2 := k2.now hW
    have e1 : zs.length = s.zones.length := by rw [← k1.2.2.1]; simp
    have e2 : zs'.length = s'.zones.length := by rw [← k2.2.2.1]; simp
    have := rzones_any zs zs' z z' W q1.2.1 q2.2.1 (fun q hq => ⟨q1.2.2.2.1 q hq, n1.eras _ (by rw [← k1.2.2.1]; exact List.mem_map.2 ⟨q, hq, rfl⟩)⟩) (fun q hq => ⟨q2.2.2.2.1 q hq, n2.eras _ (by rw [← k2.2.2.1]; exact List.mem_map.2 ⟨q, hq, rfl⟩)⟩) (by rw [e1]; exact n1.zones) (by rw [e2]; exact n2.zones)
    rwa [k1.2.2.1, k2.2.2.1] at this)
  have hb1 := n2.rules
  have hb3 := n2.links
  have hb4 := n2.shifts
  have hc1 := n1.rules
  have hc3 := n1.links
  have hc4 := n1.shifts
  obtain ⟨p1, c1, rfl, hr1⟩ := k1.1
  obtain ⟨p2, c2, rfl⟩ := k1.2.1.slice
  obtain ⟨p3, c3, rfl, hr3⟩ := k1.2.2.2.2.1
  obtain ⟨p4, c4, rfl, hr4⟩ := k1.2.2.2.2.2
  obtain ⟨p5, c5, rfl, hr5⟩ := k2.1
  obtain ⟨p6, c6, rfl⟩ := k2.2.1.slice
  obtain ⟨p7, c7, rfl, hr7⟩ := k2.2.2.2.2.1
  obtain ⟨p8, c8, rfl, hr8⟩ := k2.2.2.2.2.2
  clear k1 k2 n1 n2
  have HNE_r := Lib.hid (show s.rules ≠ s'.rules → decide (s = s') = false from fun h => decide_eq_false fun e => h (by rw [e]))
  have HNE_z := Lib.hid (show decide (s.zones = s'.zones) = false → decide (s = s') = false from fun h => decide_eq_false fun e => of_decide_eq_false h (by rw [e]))
  have HNE_l := Lib.hid (show s.links ≠ s'.links → decide (s = s') = false from fun h => decide_eq_false fun e => h (by rw [e]))
  have HNE_s := Lib.hid (show s.shifts ≠ s'.shifts → decide (s = s') = false from fun h => decide_eq_false fun e => h (by rw [e]))
  have HEQ := Lib.hid (show decide (s.zones = s'.zones) = true → s.rules = s'.rules → s.links = s'.links → s.shifts = s'.shifts → decide (s = s') = true from fun h e1 e3 e4 => decide_eq_true (by
    have e2 := of_decide_eq_true h
    cases s; cases s'
    simp only at e1 e2 e3 e4
    rw [e1, e2, e3, e4]))
  by_cases hn_r : s.rules.length = s'.rules.length
  rotate_left
  · have g1 : ((s.rules.length : Int) != (s'.rules.length : Int)) = true := by rw [bne_iff_ne]; omega
    have HF := Lib.hid (HNE_r.out fun h => hn_r (by rw [h]))
    go_enter Tryz.func13, Tryz.ntmps13
    go_wp2_with fail
    go_ret
    exact ⟨by rw [HF.out]; rfl, HB0.out.2.2⟩
  rw [hn_r] at HB0 ⊢
  by_cases hn_l : s.links.length = s'.links.length
  rotate_left
  · have g1 : ((s'.rules.length : Int) != (s'.rules.length : Int)) = false := by simp
    have g2 : ((s.links.length : Int) != (s'.links.length : Int)) = true := by rw [bne_iff_ne]; omega
    have HF := Lib.hid (HNE_l.out fun h => hn_l (by rw [h]))
    go_enter Tryz.func13, Tryz.ntmps13
    go_wp2_with fail
    go_ret
    exact ⟨by rw [HF.out]; rfl, HB0.out.2.2⟩
  rw [hn_l] at HB0 ⊢
  by_cases hn_s : s.shifts.length = s'.shifts.length
  rotate_left
  · have g1 : ((s'.rules.length : Int) != (s'.rules.length : Int)) = false := by simp
    have g2 : ((s'.links.length : Int) != (s'.links.length : Int)) = false := by simp
    have g3 : ((s.shifts.length : Int) != (s'.shifts.length : Int)) = true := by rw [bne_iff_ne]; omega
    have HF := Lib.hid (HNE_s.out fun h => hn_s (by rw [h]))
    go_enter Tryz.func13, Tryz.ntmps13
    go_wp2_with fail
    go_ret
    exact ⟨by rw [HF.out]; rfl, HB0.out.2.2⟩
  rw [hn_s] at HB0 ⊢
  have g1 : ((s'.rules.length : Int) != (s'.rules.length : Int)) = false := by simp
  have g2 : ((s'.links.length : Int) != (s'.links.length : Int)) = false := by simp
  have g3 : ((s'.shifts.length : Int) != (s'.shifts.length : Int)) = false := by simp
  obtain ⟨bz, hbz⟩ : ∃ b, decide (s.zones = s'.zones) = b := ⟨_, rfl⟩
  rw [hbz] at H2 HNE_z HEQ
  clear hbz
  cases bz with
  | false =>
    have HF := Lib.hid (HNE_z.out rfl)
    go_enter Tryz.func13, Tryz.ntmps13
    go_wp2_with fail
    refine (H2.out _ HB0.out.2.2).mono ?_
    rintro e w1 ⟨rfl, hb⟩
    have HB := Lib.hid (HB0.out.below hb)
    clear hb HB0
    go_wp2_with fail
    go_ret
    exact ⟨by rw [HF.out]; rfl, HB.out.2.2⟩
  | true =>
    have HEQ1 := Lib.hid (HEQ.out rfl)
    have HR1 := Lib.hid hr1
    have HR3 := Lib.hid hr3
    have HR4 := Lib.hid hr4
    have HR5 := Lib.hid hr5
    have HR7 := Lib.hid hr7
    have HR8 := Lib.hid hr8
    have hTr : (Tryz.prog.info? 47).map (·.size) = some 11 := by kernel_rfl
    have hTl : (Tryz.prog.info? 58).map (·.size) = some 2 := by kernel_rfl
    clear hr1 hr3 hr4 hr5 hr7 hr8 HEQ HNE_z
    go_enter Tryz.func13, Tryz.ntmps13
    go_wp2_with fail
    refine (H2.out _ HB0.out.2.2).mono ?_
    rintro e w1 ⟨rfl, hb⟩
    have HB := Lib.hid (HB0.out.below hb)
    clear hb HB0 H2 g1 g2 g3
    generalize hS1 : (#[.slice p1 s'.rules.length c1, .slice p2 zs.length c2, .slice p3 s'.links.length c3, .slice p4 s'.shifts.length c4] : Array Value) = SC1 at HB
    generalize hS2 : (#[.slice p5 s'.rules.length c5, .slice p6 zs'.length c6, .slice p7 s'.links.length c7, .slice p8 s'.shifts.length c8] : Array Value) = SC2 at HB
    have HS1 := Lib.hid hS1.symm
    have HS2 := Lib.hid hS2.symm
    clear hS1 hS2
    go_wp2_with fail
    go_loopw [5] (fun i wr => ∃ k : Nat, k ≤ s'.rules.length ∧ i = .int .i64 (k : Int) ∧ Hid (s.rules.take k = s'.rules.take k) ∧ Hid (R2 w SC1 SC2 wr)) (fun i _ => s'.rules.length - (intOf i).toNat)
    case atStart => exact ⟨0, Nat.zero_le _, rfl, Lib.hid rfl, HB⟩
    case round =>
      clear HB
      obtain ⟨k, hk, rfl, HA, HB⟩ := hrel
      have a0 : wr.cell? ⟨w.heap.size, 0, none⟩ = some (.slice p1 s'.rules.length c1) := HB.out.1.cell_ (by rw [HS1.out]; rfl)
      by_cases hlt : k < s'.rules.length
      · obtain ⟨x, hx⟩ : ∃ x, s.rules[k]? = some x := ⟨_, List.getElem?_eq_getElem (by omega)⟩
        obtain ⟨y, hy⟩ : ∃ y, s'.rules[k]? = some y := ⟨_, List.getElem?_eq_getElem hlt⟩
        obtain ⟨b1, o1, rfl, hb1, ha1⟩ := HR1.out (by intro h; rw [h] at hn_r; simp at hn_r; omega)
        obtain ⟨b2, o2, rfl, hb2, ha2⟩ := HR5.out (by intro h; rw [h] at hlt; simp at hlt)
        have hd : decide ((k : Int) < (s'.rules.length : Int)) = true := by simp; omega
        have k0 : (0 : Int) ≤ (k : Int) := by omega
        have kl : (k : Int) < (s'.rules.length : Int) := by omega
        have HX := Lib.hid hx
        have HY := Lib.hid hy
        have hr1 : ∀ W, Below w.heap.size w W → W.rangeAt b1 (o1 + k * 11) (RuleP.cells x).toList := fun W hW j v hv => (hW.cell (p := ⟨b1, o1 + k * 11 + j, none⟩) hb1).trans (ha1 k x hx j v hv)
        have hr2 : ∀ W, Below w.heap.size w W → W.rangeAt b2 (o2 + k * 11) (RuleP.cells y).toList := fun W hW j v hv => (hW.cell (p := ⟨b2, o2 + k * 11 + j, none⟩) hb2).trans (ha2 k y hy j v hv)
        have HB' := Lib.hid (show R2 w #[.slice (some ⟨b1, o1, none⟩) s'.rules.length c1, .slice p2 zs.length c2, .slice p3 s'.links.length c3, .slice p4 s'.shifts.length c4] #[.slice (some ⟨b2, o2, none⟩) s'.rules.length c5, .slice p6 zs'.length c6, .slice p7 s'.links.length c7, .slice p8 s'.shifts.length c8] wr from by have h := HB.out; rwa [HS1.out, HS2.out] at h)
        clear ha1 ha2 hx hy
        by_cases hxy : x = y
        · subst hxy
          have HT := Lib.hid (take_eq HA.out HX.out HY.out rfl)
          obtain ⟨nm1, fr1, tl1, mo1, ⟨d11, d21, d31⟩, ⟨h11, h21⟩, sv1, lt1⟩ := x
          simp only [RuleP.cells] at hr1 hr2
          clear HX HY HA
          go_wp2_with fail
          refine wp_region_vals 11 (fun W => R2 w #[.slice (some ⟨b1, o1, none⟩) s'.rules.length c1, .slice p2 zs.length c2, .slice p3 s'.links.length c3, .slice p4 s'.shifts.length c4] #[.slice (some ⟨b2, o2, none⟩) s'.rules.length c5, .slice p6 zs'.length c6, .slice p7 s'.links.length c7, .slice p8 s'.shifts.length c8] W) (by kernel_rfl) (by kernel_rfl) rfl HB'.out.drew (fun W W' h hb => h.below hb) ?_
          iterate 4
            apply exV_ex rfl ?_ (fun K hK => ?_)
            any_goals
              intro W hC
              have s1 := hC.1.cell_ (i := 0) rfl
              have s2 := hC.2.1.cell_ (i := 0) rfl
              go_simp
              all_goals first | exact ⟨Below.refl _ _, rfl⟩ | exact Below.refl _ _
            any_goals
              revert hK
              intro hK
              go_simp
              refine hK _ ?_
              clear hK K
          refine exV_ex rfl (fun W hC => relAt_load_arr 47 (.tmp 51) rfl b1 (o1 + k * 11) rfl #[.string ⟨nm1.toArray⟩, .int .i64 fr1, .int .i64 tl1, .int .i64 mo1, .int .i64 d11, .int .i64 d21, .int .i64 d31, .int .i64 h11, .int .i64 h21, .int .i64 sv1, .string ⟨lt1.toArray⟩] _ (hr1 W hC.2.2) Tryz.underlying47 rfl hTr) (fun K hK => ?_)
          revert hK
          intro hK
          go_simp
          refine hK _ ?_
          clear hK K
          iterate 4
            apply exV_ex rfl ?_ (fun K hK => ?_)
            any_goals
              intro W hC
              have s1 := hC.1.cell_ (i := 0) rfl
              have s2 := hC.2.1.cell_ (i := 0) rfl
              go_simp
              all_goals first | exact ⟨Below.refl _ _, rfl⟩ | exact Below.refl _ _
            any_goals
              revert hK
              intro hK
              go_simp
              refine hK _ ?_
              clear hK K
          refine exV_ex rfl (fun W hC => relAt_load_arr 47 (.tmp 56) rfl b2 (o2 + k * 11) rfl #[.string ⟨nm1.toArray⟩, .int .i64 fr1, .int .i64 tl1, .int .i64 mo1, .int .i64 d11, .int .i64 d21, .int .i64 d31, .int .i64 h11, .int .i64 h21, .int .i64 sv1, .string ⟨lt1.toArray⟩] _ (hr2 W hC.2.2) Tryz.underlying47 rfl hTr) (fun K hK => ?_)
          revert hK
          intro hK
          go_simp
          refine hK _ ?_
          clear hK K
          refine exV_ex (v := .bool false) rfl (fun W hC => ?_) (fun K hK => ?_)
          · have s1 := hC.1.cell_ (i := 0) rfl
            have s2 := hC.2.1.cell_ (i := 0) rfl
            go_simp
            first | exact ⟨Below.refl _ _, rfl⟩ | exact Below.refl _ _
          revert hK
          intro hK
          go_simp
          refine hK _ ?_
          clear hK K
          refine exV_end fun W hC => (wpList_nil ?_)
          go_wp2_with fail
          go_roundw
          case rel => exact ⟨k + 1, by omega, by go_num, HT, Lib.hid (by rw [HS1.out, HS2.out]; exact hC)⟩
          case measure => simp [intOf]; omega
        · have HF := Lib.hid (HNE_r.out (take_ne HX.out HY.out hxy))
          obtain ⟨nm1, fr1, tl1, mo1, ⟨d11, d21, d31⟩, ⟨h11, h21⟩, sv1, lt1⟩ := x
          obtain ⟨nm2, fr2, tl2, mo2, ⟨d12, d22, d32⟩, ⟨h12, h22⟩, sv2, lt2⟩ := y
          simp only [RuleP.cells] at hr1 hr2
          clear HX HY HA
          go_wp2_with fail
          refine wp_region_vals 11 (fun W => R2 w #[.slice (some ⟨b1, o1, none⟩) s'.rules.length c1, .slice p2 zs.length c2, .slice p3 s'.links.length c3, .slice p4 s'.shifts.length c4] #[.slice (some ⟨b2, o2, none⟩) s'.rules.length c5, .slice p6 zs'.length c6, .slice p7 s'.links.length c7, .slice p8 s'.shifts.length c8] W) (by kernel_rfl) (by kernel_rfl) rfl HB'.out.drew (fun W W' h hb => h.below hb) ?_
          iterate 4
            apply exV_ex rfl ?_ (fun K hK => ?_)
            any_goals
              intro W hC
              have s1 := hC.1.cell_ (i := 0) rfl
              have s2 := hC.2.1.cell_ (i := 0) rfl
              go_simp
              all_goals first | exact ⟨Below.refl _ _, rfl⟩ | exact Below.refl _ _
            any_goals
              revert hK
              intro hK
              go_simp
              refine hK _ ?_
              clear hK K
          refine exV_ex rfl (fun W hC => relAt_load_arr 47 (.tmp 51) rfl b1 (o1 + k * 11) rfl #[.string ⟨nm1.toArray⟩, .int .i64 fr1, .int .i64 tl1, .int .i64 mo1, .int .i64 d11, .int .i64 d21, .int .i64 d31, .int .i64 h11, .int .i64 h21, .int .i64 sv1, .string ⟨lt1.toArray⟩] _ (hr1 W hC.2.2) Tryz.underlying47 rfl hTr) (fun K hK => ?_)
          revert hK
          intro hK
          go_simp
          refine hK _ ?_
          clear hK K
          iterate 4
            apply exV_ex rfl ?_ (fun K hK => ?_)
            any_goals
              intro W hC
              have s1 := hC.1.cell_ (i := 0) rfl
              have s2 := hC.2.1.cell_ (i := 0) rfl
              go_simp
              all_goals first | exact ⟨Below.refl _ _, rfl⟩ | exact Below.refl _ _
            any_goals
              revert hK
              intro hK
              go_simp
              refine hK _ ?_
              clear hK K
          refine exV_ex rfl (fun W hC => relAt_load_arr 47 (.tmp 56) rfl b2 (o2 + k * 11) rfl #[.string ⟨nm2.toArray⟩, .int .i64 fr2, .int .i64 tl2, .int .i64 mo2, .int .i64 d12, .int .i64 d22, .int .i64 d32, .int .i64 h12, .int .i64 h22, .int .i64 sv2, .string ⟨lt2.toArray⟩] _ (hr2 W hC.2.2) Tryz.underlying47 rfl hTr) (fun K hK => ?_)
          revert hK
          intro hK
          go_simp
          refine hK _ ?_
          clear hK K
          refine exV_ex (v := .bool true) rfl (fun W hC => ?_) (fun K hK => ?_)
          · have s1 := hC.1.cell_ (i := 0) rfl
            have s2 := hC.2.1.cell_ (i := 0) rfl
            go_simp
            by_cases e_nm : nm1 = nm2
            rotate_left
            · rw [if_neg e_nm]
              first | exact ⟨Below.refl _ _, rfl⟩ | exact Below.refl _ _
            rw [if_pos e_nm]
            by_cases e_fr : fr1 = fr2
            rotate_left
            · rw [if_neg e_fr]
              first | exact ⟨Below.refl _ _, rfl⟩ | exact Below.refl _ _
            rw [if_pos e_fr]
            by_cases e_tl : tl1 = tl2
            rotate_left
            · rw [if_neg e_tl]
              first | exact ⟨Below.refl _ _, rfl⟩ | exact Below.refl _ _
            rw [if_pos e_tl]
            by_cases e_mo : mo1 = mo2
            rotate_left
            · rw [if_neg e_mo]
              first | exact ⟨Below.refl _ _, rfl⟩ | exact Below.refl _ _
            rw [if_pos e_mo]
            by_cases e_d1 : d11 = d12
            rotate_left
            · rw [if_neg e_d1]
              first | exact ⟨Below.refl _ _, rfl⟩ | exact Below.refl _ _
            rw [if_pos e_d1]
            by_cases e_d2 : d21 = d22
            rotate_left
            · rw [if_neg e_d2]
              first | exact ⟨Below.refl _ _, rfl⟩ | exact Below.refl _ _
            rw [if_pos e_d2]
            by_cases e_d3 : d31 = d32
            rotate_left
            · rw [if_neg e_d3]
              first | exact ⟨Below.refl _ _, rfl⟩ | exact Below.refl _ _
            rw [if_pos e_d3]
            by_cases e_h1 : h11 = h12
            rotate_left
            · rw [if_neg e_h1]
              first | exact ⟨Below.refl _ _, rfl⟩ | exact Below.refl _ _
            rw [if_pos e_h1]
            by_cases e_h2 : h21 = h22
            rotate_left
            · rw [if_neg e_h2]
              first | exact ⟨Below.refl _ _, rfl⟩ | exact Below.refl _ _
            rw [if_pos e_h2]
            by_cases e_sv : sv1 = sv2
            rotate_left
            · rw [if_neg e_sv]
              first | exact ⟨Below.refl _ _, rfl⟩ | exact Below.refl _ _
            rw [if_pos e_sv]
            by_cases e_lt : lt1 = lt2
            rotate_left
            · rw [if_neg e_lt]
              first | exact ⟨Below.refl _ _, rfl⟩ | exact Below.refl _ _
            rw [if_pos e_lt]
            exact absurd (by subst_vars; rfl) hxy
          revert hK
          intro hK
          go_simp
          refine hK _ ?_
          clear hK K
          refine exV_end fun W hC => (wpList_nil ?_)
          go_wp2_with fail
          go_ret
          exact ⟨by rw [HF.out]; rfl, hC.2.2⟩
      · obtain rfl : k = s'.rules.length := by omega
        have hd : decide ((s'.rules.length : Int) < (s'.rules.length : Int)) = false := by simp
        have HE_r := Lib.hid (show s.rules = s'.rules from by
          have h := HA.out
          rwa [List.take_length, List.take_of_length_le (by omega)] at h)
        clear HA hlt hk
        go_wp2_with fail
        go_loopw [6] (fun i wr => ∃ k : Nat, k ≤ s'.links.length ∧ i = .int .i64 (k : Int) ∧ Hid (s.links.take k = s'.links.take k) ∧ Hid (R2 w SC1 SC2 wr)) (fun i _ => s'.links.length - (intOf i).toNat)
        case atStart => exact ⟨0, Nat.zero_le _, rfl, Lib.hid rfl, HB⟩
        case round =>
          clear HB
          obtain ⟨k, hk, rfl, HA, HB⟩ := hrel
          have a0 : wr.cell? ⟨w.heap.size, 2, none⟩ = some (.slice p3 s'.links.length c3) := HB.out.1.cell_ (by rw [HS1.out]; rfl)
          by_cases hlt : k < s'.links.length
          · obtain ⟨x, hx⟩ : ∃ x, s.links[k]? = some x := ⟨_, List.getElem?_eq_getElem (by omega)⟩
            obtain ⟨y, hy⟩ : ∃ y, s'.links[k]? = some y := ⟨_, List.getElem?_eq_getElem hlt⟩
            obtain ⟨b1, o1, rfl, hb1, ha1⟩ := HR3.out (by intro h; rw [h] at hn_l; simp at hn_l; omega)
            obtain ⟨b2, o2, rfl, hb2, ha2⟩ := HR7.out (by intro h; rw [h] at hlt; simp at hlt)
            have hd : decide ((k : Int) < (s'.links.length : Int)) = true := by simp; omega
            have k0 : (0 : Int) ≤ (k : Int) := by omega
            have kl : (k : Int) < (s'.links.length : Int) := by omega
            have HX := Lib.hid hx
            have HY := Lib.hid hy
            have hr1 : ∀ W, Below w.heap.size w W → W.rangeAt b1 (o1 + k * 2) (LinkP.cells x).toList := fun W hW j v hv => (hW.cell (p := ⟨b1, o1 + k * 2 + j, none⟩) hb1).trans (ha1 k x hx j v hv)
            have hr2 : ∀ W, Below w.heap.size w W → W.rangeAt b2 (o2 + k * 2) (LinkP.cells y).toList := fun W hW j v hv => (hW.cell (p := ⟨b2, o2 + k * 2 + j, none⟩) hb2).trans (ha2 k y hy j v hv)
            have HB' := Lib.hid (show R2 w #[.slice p1 s'.rules.length c1, .slice p2 zs.length c2, .slice (some ⟨b1, o1, none⟩) s'.links.length c3, .slice p4 s'.shifts.length c4] #[.slice p5 s'.rules.length c5, .slice p6 zs'.length c6, .slice (some ⟨b2, o2, none⟩) s'.links.length c7, .slice p8 s'.shifts.length c8] wr from by have h := HB.out; rwa [HS1.out, HS2.out] at h)
            clear ha1 ha2 hx hy
            by_cases hxy : x = y
            · subst hxy
              have HT := Lib.hid (take_eq HA.out HX.out HY.out rfl)
              obtain ⟨tg1, nn1⟩ := x
              simp only [LinkP.cells] at hr1 hr2
              clear HX HY HA
              go_wp2_with fail
              refine wp_region_vals 11 (fun W => R2 w #[.slice p1 s'.rules.length c1, .slice p2 zs.length c2, .slice (some ⟨b1, o1, none⟩) s'.links.length c3, .slice p4 s'.shifts.length c4] #[.slice p5 s'.rules.length c5, .slice p6 zs'.length c6, .slice (some ⟨b2, o2, none⟩) s'.links.length c7, .slice p8 s'.shifts.length c8] W) (by kernel_rfl) (by kernel_rfl) rfl HB'.out.drew (fun W W' h hb => h.below hb) ?_
              iterate 4
                apply exV_ex rfl ?_ (fun K hK => ?_)
                any_goals
                  intro W hC
                  have s1 := hC.1.cell_ (i := 2) rfl
                  have s2 := hC.2.1.cell_ (i := 2) rfl
                  go_simp
                  all_goals first | exact ⟨Below.refl _ _, rfl⟩ | exact Below.refl _ _
                any_goals
                  revert hK
                  intro hK
                  go_simp
                  refine hK _ ?_
                  clear hK K
              refine exV_ex rfl (fun W hC => relAt_load_arr 58 (.tmp 69) rfl b1 (o1 + k * 2) rfl #[.string ⟨tg1.toArray⟩, .string ⟨nn1.toArray⟩] _ (hr1 W hC.2.2) Tryz.underlying58 rfl hTl) (fun K hK => ?_)
              revert hK
              intro hK
              go_simp
              refine hK _ ?_
              clear hK K
              iterate 4
                apply exV_ex rfl ?_ (fun K hK => ?_)
                any_goals
                  intro W hC
                  have s1 := hC.1.cell_ (i := 2) rfl
                  have s2 := hC.2.1.cell_ (i := 2) rfl
                  go_simp
                  all_goals first | exact ⟨Below.refl _ _, rfl⟩ | exact Below.refl _ _
                any_goals
                  revert hK
                  intro hK
                  go_simp
                  refine hK _ ?_
                  clear hK K
              refine exV_ex rfl (fun W hC => relAt_load_arr 58 (.tmp 74) rfl b2 (o2 + k * 2) rfl #[.string ⟨tg1.toArray⟩, .string ⟨nn1.toArray⟩] _ (hr2 W hC.2.2) Tryz.underlying58 rfl hTl) (fun K hK => ?_)
              revert hK
              intro hK
              go_simp
              refine hK _ ?_
              clear hK K
              refine exV_ex (v := .bool false) rfl (fun W hC => ?_) (fun K hK => ?_)
              · have s1 := hC.1.cell_ (i := 2) rfl
                have s2 := hC.2.1.cell_ (i := 2) rfl
                go_simp
                first | exact ⟨Below.refl _ _, rfl⟩ | exact Below.refl _ _
              revert hK
              intro hK
              go_simp
              refine hK _ ?_
              clear hK K
              refine exV_end fun W hC => (wpList_nil ?_)
              go_wp2_with fail
              go_roundw
              case rel => exact ⟨k + 1, by omega, by go_num, HT, Lib.hid (by rw [HS1.out, HS2.out]; exact hC)⟩
              case measure => simp [intOf]; omega
            · have HF := Lib.hid (HNE_l.out (take_ne HX.out HY.out hxy))
              obtain ⟨tg1, nn1⟩ := x
              obtain ⟨tg2, nn2⟩ := y
              simp only [LinkP.cells] at hr1 hr2
              clear HX HY HA
              go_wp2_with fail
              refine wp_region_vals 11 (fun W => R2 w #[.slice p1 s'.rules.length c1, .slice p2 zs.length c2, .slice (some ⟨b1, o1, none⟩) s'.links.length c3, .slice p4 s'.shifts.length c4] #[.slice p5 s'.rules.length c5, .slice p6 zs'.length c6, .slice (some ⟨b2, o2, none⟩) s'.links.length c7, .slice p8 s'.shifts.length c8] W) (by kernel_rfl) (by kernel_rfl) rfl HB'.out.drew (fun W W' h hb => h.below hb) ?_
              iterate 4
                apply exV_ex rfl ?_ (fun K hK => ?_)
                any_goals
                  intro W hC
                  have s1 := hC.1.cell_ (i := 2) rfl
                  have s2 := hC.2.1.cell_ (i := 2) rfl
                  go_simp
                  all_goals first | exact ⟨Below.refl _ _, rfl⟩ | exact Below.refl _ _
                any_goals
                  revert hK
                  intro hK
                  go_simp
                  refine hK _ ?_
                  clear hK K
              refine exV_ex rfl (fun W hC => relAt_load_arr 58 (.tmp 69) rfl b1 (o1 + k * 2) rfl #[.string ⟨tg1.toArray⟩, .string ⟨nn1.toArray⟩] _ (hr1 W hC.2.2) Tryz.underlying58 rfl hTl) (fun K hK => ?_)
              revert hK
              intro hK
              go_simp
              refine hK _ ?_
              clear hK K
              iterate 4
                apply exV_ex rfl ?_ (fun K hK => ?_)
                any_goals
                  intro W hC
                  have s1 := hC.1.cell_ (i := 2) rfl
                  have s2 := hC.2.1.cell_ (i := 2) rfl
                  go_simp
                  all_goals first | exact ⟨Below.refl _ _, rfl⟩ | exact Below.refl _ _
                any_goals
                  revert hK
                  intro hK
                  go_simp
                  refine hK _ ?_
                  clear hK K
              refine exV_ex rfl (fun W hC => relAt_load_arr 58 (.tmp 74) rfl b2 (o2 + k * 2) rfl #[.string ⟨tg2.toArray⟩, .string ⟨nn2.toArray⟩] _ (hr2 W hC.2.2) Tryz.underlying58 rfl hTl) (fun K hK => ?_)
              revert hK
              intro hK
              go_simp
              refine hK _ ?_
              clear hK K
              refine exV_ex (v := .bool true) rfl (fun W hC => ?_) (fun K hK => ?_)
              · have s1 := hC.1.cell_ (i := 2) rfl
                have s2 := hC.2.1.cell_ (i := 2) rfl
                go_simp
                by_cases e_tg : tg1 = tg2
                rotate_left
                · rw [if_neg e_tg]
                  first | exact ⟨Below.refl _ _, rfl⟩ | exact Below.refl _ _
                rw [if_pos e_tg]
                by_cases e_nn : nn1 = nn2
                rotate_left
                · rw [if_neg e_nn]
                  first | exact ⟨Below.refl _ _, rfl⟩ | exact Below.refl _ _
                rw [if_pos e_nn]
                exact absurd (by subst_vars; rfl) hxy
              revert hK
              intro hK
              go_simp
              refine hK _ ?_
              clear hK K
              refine exV_end fun W hC => (wpList_nil ?_)
              go_wp2_with fail
              go_ret
              exact ⟨by rw [HF.out]; rfl, hC.2.2⟩
          · obtain rfl : k = s'.links.length := by omega
            have hd : decide ((s'.links.length : Int) < (s'.links.length : Int)) = false := by simp
            have HE_l := Lib.hid (show s.links = s'.links from by
              have h := HA.out
              rwa [List.take_length, List.take_of_length_le (by omega)] at h)
            clear HA hlt hk
            go_wp2_with fail
            go_loopw [7] (fun i wr => ∃ k : Nat, k ≤ s'.shifts.length ∧ i = .int .i64 (k : Int) ∧ Hid (s.shifts.take k = s'.shifts.take k) ∧ Hid (R2 w SC1 SC2 wr)) (fun i _ => s'.shifts.length - (intOf i).toNat)
            case atStart => exact ⟨0, Nat.zero_le _, rfl, Lib.hid rfl, HB⟩
            case round =>
              clear HB
              obtain ⟨k, hk, rfl, HA, HB⟩ := hrel
              have a0 : wr.cell? ⟨w.heap.size, 3, none⟩ = some (.slice p4 s'.shifts.length c4) := HB.out.1.cell_ (by rw [HS1.out]; rfl)
              by_cases hlt : k < s'.shifts.length
              · obtain ⟨x, hx⟩ : ∃ x, s.shifts[k]? = some x := ⟨_, List.getElem?_eq_getElem (by omega)⟩
                obtain ⟨y, hy⟩ : ∃ y, s'.shifts[k]? = some y := ⟨_, List.getElem?_eq_getElem hlt⟩
                obtain ⟨b1, o1, rfl, hb1, ha1⟩ := HR4.out (by intro h; rw [h] at hn_s; simp at hn_s; omega)
                obtain ⟨b2, o2, rfl, hb2, ha2⟩ := HR8.out (by intro h; rw [h] at hlt; simp at hlt)
                have hd : decide ((k : Int) < (s'.shifts.length : Int)) = true := by simp; omega
                have k0 : (0 : Int) ≤ (k : Int) := by omega
                have kl : (k : Int) < (s'.shifts.length : Int) := by omega
                have HX := Lib.hid hx
                have HY := Lib.hid hy
                have hr1 : ∀ W, Below w.heap.size w W → W.cell? ⟨b1, o1 + k, none⟩ = some (.string ⟨x.toArray⟩) := fun W hW => by
                  have h := (hW.cell (p := ⟨b1, o1 + k * 1 + 0, none⟩) hb1).trans (ha1 k x hx 0 _ rfl)
                  simpa only [Nat.mul_one, Nat.add_zero] using h
                have hr2 : ∀ W, Below w.heap.size w W → W.cell? ⟨b2, o2 + k, none⟩ = some (.string ⟨y.toArray⟩) := fun W hW => by
                  have h := (hW.cell (p := ⟨b2, o2 + k * 1 + 0, none⟩) hb2).trans (ha2 k y hy 0 _ rfl)
                  simpa only [Nat.mul_one, Nat.add_zero] using h
                have HB' := Lib.hid (show R2 w #[.slice p1 s'.rules.length c1, .slice p2 zs.length c2, .slice p3 s'.links.length c3, .slice (some ⟨b1, o1, none⟩) s'.shifts.length c4] #[.slice p5 s'.rules.length c5, .slice p6 zs'.length c6, .slice p7 s'.links.length c7, .slice (some ⟨b2, o2, none⟩) s'.shifts.length c8] wr from by have h := HB.out; rwa [HS1.out, HS2.out] at h)
                clear ha1 ha2 hx hy
                by_cases hxy : x = y
                · subst hxy
                  have HT := Lib.hid (take_eq HA.out HX.out HY.out rfl)
                  clear HX HY HA
                  go_wp2_with fail
                  refine wp_region_vals 11 (fun W => R2 w #[.slice p1 s'.rules.length c1, .slice p2 zs.length c2, .slice p3 s'.links.length c3, .slice (some ⟨b1, o1, none⟩) s'.shifts.length c4] #[.slice p5 s'.rules.length c5, .slice p6 zs'.length c6, .slice p7 s'.links.length c7, .slice (some ⟨b2, o2, none⟩) s'.shifts.length c8] W) (by kernel_rfl) (by kernel_rfl) rfl HB'.out.drew (fun W W' h hb => h.below hb) ?_
                  iterate 10
                    apply exV_ex rfl ?_ (fun K hK => ?_)
                    any_goals
                      intro W hC
                      have s1 := hC.1.cell_ (i := 3) rfl
                      have s2 := hC.2.1.cell_ (i := 3) rfl
                      have s3 := hr1 W hC.2.2
                      have s4 := hr2 W hC.2.2
                      go_simp
                      all_goals first | exact ⟨Below.refl _ _, rfl⟩ | exact Below.refl _ _
                    any_goals
                      revert hK
                      intro hK
                      go_simp
                      refine hK _ ?_
                      clear hK K
                  refine exV_ex (v := .bool false) rfl (fun W hC => ?_) (fun K hK => ?_)
                  · have s1 := hC.1.cell_ (i := 3) rfl
                    have s2 := hC.2.1.cell_ (i := 3) rfl
                    have s3 := hr1 W hC.2.2
                    have s4 := hr2 W hC.2.2
                    go_simp
                    first | exact ⟨Below.refl _ _, rfl⟩ | exact Below.refl _ _
                  revert hK
                  intro hK
                  go_simp
                  refine hK _ ?_
                  clear hK K
                  refine exV_end fun W hC => (wpList_nil ?_)
                  go_wp2_with fail
                  go_roundw
                  case rel => exact ⟨k + 1, by omega, by go_num, HT, Lib.hid (by rw [HS1.out, HS2.out]; exact hC)⟩
                  case measure => simp [intOf]; omega
                · have HF := Lib.hid (HNE_s.out (take_ne HX.out HY.out hxy))
                  clear HX HY HA
                  go_wp2_with fail
                  refine wp_region_vals 11 (fun W => R2 w #[.slice p1 s'.rules.length c1, .slice p2 zs.length c2, .slice p3 s'.links.length c3, .slice (some ⟨b1, o1, none⟩) s'.shifts.length c4] #[.slice p5 s'.rules.length c5, .slice p6 zs'.length c6, .slice p7 s'.links.length c7, .slice (some ⟨b2, o2, none⟩) s'.shifts.length c8] W) (by kernel_rfl) (by kernel_rfl) rfl HB'.out.drew (fun W W' h hb => h.below hb) ?_
                  iterate 10
                    apply exV_ex rfl ?_ (fun K hK => ?_)
                    any_goals
                      intro W hC
                      have s1 := hC.1.cell_ (i := 3) rfl
                      have s2 := hC.2.1.cell_ (i := 3) rfl
                      have s3 := hr1 W hC.2.2
                      have s4 := hr2 W hC.2.2
                      go_simp
                      all_goals first | exact ⟨Below.refl _ _, rfl⟩ | exact Below.refl _ _
                    any_goals
                      revert hK
                      intro hK
                      go_simp
                      refine hK _ ?_
                      clear hK K
                  refine exV_ex (v := .bool true) rfl (fun W hC => ?_) (fun K hK => ?_)
                  · have s1 := hC.1.cell_ (i := 3) rfl
                    have s2 := hC.2.1.cell_ (i := 3) rfl
                    have s3 := hr1 W hC.2.2
                    have s4 := hr2 W hC.2.2
                    go_simp
                    first | exact ⟨Below.refl _ _, rfl⟩ | exact Below.refl _ _
                  revert hK
                  intro hK
                  go_simp
                  refine hK _ ?_
                  clear hK K
                  refine exV_end fun W hC => (wpList_nil ?_)
                  go_wp2_with fail
                  go_ret
                  exact ⟨by rw [HF.out]; rfl, hC.2.2⟩
              · obtain rfl : k = s'.shifts.length := by omega
                have hd : decide ((s'.shifts.length : Int) < (s'.shifts.length : Int)) = false := by simp
                have HE_s := Lib.hid (show s.shifts = s'.shifts from by
                  have h := HA.out
                  rwa [List.take_length, List.take_of_length_le (by omega)] at h)
                clear HA hlt hk
                go_wp2_with fail
                go_ret
                exact ⟨by rw [HEQ1.out HE_r.out HE_l.out HE_s.out]; rfl, HB.out.2.2⟩
end Go.Proofs.YtmcgbjjcpcgcfaaGreatDoor
