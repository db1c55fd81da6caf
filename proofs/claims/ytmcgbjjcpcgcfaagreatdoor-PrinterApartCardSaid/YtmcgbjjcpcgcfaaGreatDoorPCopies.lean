/-
  slices.Equal at four types: what each call returns.
  printer.Same: what the call returns.
  slices.Clone at five types: what each call returns.
  printer.Copy: what the call returns.
-/
import Derived.Test.YtmcgbjjcpcgcfaaGreatDoorPText
import Derived.Lib.SliceRun
import Derived.Test.YtmcgbjjcpcgcfaaGreatDoorRelAll
set_option linter.unusedVariables false
namespace Go.Proofs.YtmcgbjjcpcgcfaaGreatDoor
open Go.RowKit Go.Shelf
theorem relAt_load_arr {P : Program} {o : Oper} {a : Act} {w : World} (ty : TypeId) (x : Operand) (ho : o.op = .load ty x) (b f : Nat) (hx : a.eval x = .pointer (some ⟨b, f, none⟩)) (C : Array Value) (d : TypeDesc) (hg : w.rangeAt b f C.toList)
    (hu : P.underlying ty = some d) (hd : d.isRow = true) (hi : (P.info? ty).map (·.size) = some C.size) : relAt P o a w fun u _ => u = .agg C := by
  unfold relAt execOp
  simp only [ho, hx, Instr.loadAt, Instr.sureAddr, Sem.run_bind, Sem.run_pure, Result.andThen_ok, run_loadVar_mid w b f ty C.toList d hg hu hd (by simpa using hi)]
  exact ⟨Below.refl _ _, by simp⟩
theorem take_eq {α : Type} {xs ys : List α} {k : Nat} {x y : α} (h : xs.take k = ys.take k) (hx : xs[k]? = some x) (hy : ys[k]? = some y) (e : x = y) : xs.take (k + 1) = ys.take (k + 1) := by
  rw [List.take_add_one, List.take_add_one, h, hx, hy, e]
theorem take_ne {α : Type} {xs ys : List α} {k : Nat} {x y : α} (hx : xs[k]? = some x) (hy : ys[k]? = some y) (e : x ≠ y) : xs ≠ ys := fun h => e (by rw [h, hy] at hx; exact (Option.some.inj hx).symm)

set_option maxRecDepth 100000 in
set_option maxHeartbeats 1000000 in
theorem equalRule_any (xs ys : List RuleP) (v u : Value) (w : World) (h1 : RowsAt w w.heap.size 11 RuleP.cells v xs) (h2 : RowsAt w w.heap.size 11 RuleP.cells u ys) (hl : xs.length ≤ 1048576) (hl2 : ys.length ≤ 1048576) :
    Calls Tryz.prog 46 #[v, u] w fun e w' => e = .returned (.bool (decide (xs = ys))) ∧ Below w.heap.size w w' := by
  obtain ⟨p1, c1, rfl, r1⟩ := h1
  obtain ⟨p2, c2, rfl, r2⟩ := h2
  have hTi : (Tryz.prog.info? 47).map (·.size) = some 11 := by kernel_rfl
  by_cases hn : xs.length = ys.length
  · rw [hn] at hl ⊢
    have HR1 := Lib.hid r1
    have HR2 := Lib.hid r2
    clear r1 r2
    go_enter Tryz.func46, Tryz.ntmps46
    go_wp2_with fail
    go_loopw [5, 13] (fun _ i wr => ∃ k : Nat, k ≤ ys.length ∧ i = .int .i64 (k : Int) ∧ Hid (xs.take k = ys.take k) ∧ Below w.heap.size w wr) (fun _ i _ => ys.length - (intOf i).toNat)
    case atStart => exact ⟨0, Nat.zero_le _, rfl, Lib.hid rfl, Below.refl _ _⟩
    case round =>
      obtain ⟨k, hk, rfl, HA, hB⟩ := hrel
      by_cases hlt : k < ys.length
      · obtain ⟨x, hx⟩ : ∃ x, xs[k]? = some x := ⟨_, List.getElem?_eq_getElem (by omega)⟩
        obtain ⟨y, hy⟩ : ∃ y, ys[k]? = some y := ⟨_, List.getElem?_eq_getElem hlt⟩
        obtain ⟨b1, o1, rfl, hb1, ha1⟩ := HR1.out (by intro h; rw [h] at hn; simp at hn; omega)
        obtain ⟨b2, o2, rfl, hb2, ha2⟩ := HR2.out (by intro h; rw [h] at hlt; simp at hlt)
        have HC1 := Lib.hid (show wr.drew.rangeAt b1 (o1 + k * 11) (RuleP.cells x).toList from fun j v hv => (hB.cell (p := ⟨b1, o1 + k * 11 + j, none⟩) hb1).trans (ha1 k x hx j v hv))
        have HC2 := Lib.hid (show wr.drew.rangeAt b2 (o2 + k * 11) (RuleP.cells y).toList from fun j v hv => (hB.cell (p := ⟨b2, o2 + k * 11 + j, none⟩) hb2).trans (ha2 k y hy j v hv))
        have hd : decide ((k : Int) < (ys.length : Int)) = true := by simp; omega
        have k0 : (0 : Int) ≤ (k : Int) := by omega
        have kl : (k : Int) < (ys.length : Int) := by omega
        have HX := Lib.hid hx
        have HY := Lib.hid hy
        clear ha1 ha2 HR1 HR2 hx hy
        by_cases hxy : x = y
        · subst hxy
          have HT := Lib.hid (take_eq HA.out HX.out HY.out rfl)
          obtain ⟨nm1, fr1, tl1, mo1, ⟨d11, d21, d31⟩, ⟨h11, h21⟩, sv1, lt1⟩ := x
          simp only [RuleP.cells] at HC1 HC2
          clear HX HY HA
          go_wp2_with fail
          refine wp_region_vals 9 (fun W => W.rangeAt b1 (o1 + k * 11) [.string ⟨nm1.toArray⟩, .int .i64 fr1, .int .i64 tl1, .int .i64 mo1, .int .i64 d11, .int .i64 d21, .int .i64 d31, .int .i64 h11, .int .i64 h21, .int .i64 sv1, .string ⟨lt1.toArray⟩] ∧ W.rangeAt b2 (o2 + k * 11) [.string ⟨nm1.toArray⟩, .int .i64 fr1, .int .i64 tl1, .int .i64 mo1, .int .i64 d11, .int .i64 d21, .int .i64 d31, .int .i64 h11, .int .i64 h21, .int .i64 sv1, .string ⟨lt1.toArray⟩] ∧ Below w.heap.size w W) (by kernel_rfl) (by kernel_rfl) rfl ⟨HC1.out, HC2.out, hB.drew⟩
            (fun W W' h hb => ⟨fun j v hv => (hb.cell (p := ⟨b1, o1 + k * 11 + j, none⟩) (Nat.lt_of_lt_of_le hb1 h.2.2.size)).trans (h.1 j v hv), fun j v hv => (hb.cell (p := ⟨b2, o2 + k * 11 + j, none⟩) (Nat.lt_of_lt_of_le hb2 h.2.2.size)).trans (h.2.1 j v hv), h.2.2.trans (hb.mono h.2.2.size)⟩) ?_
          iterate 3
            apply exV_ex rfl ?_ (fun K hK => ?_)
            any_goals
              intro W hC
              go_simp
              all_goals exact ⟨Below.refl _ _, rfl⟩
            any_goals
              revert hK
              intro hK
              go_simp
              refine hK _ ?_
              clear hK K
          refine exV_ex rfl (fun W hC => relAt_load_arr 47 (.tmp 18) rfl b1 (o1 + k * 11) rfl #[.string ⟨nm1.toArray⟩, .int .i64 fr1, .int .i64 tl1, .int .i64 mo1, .int .i64 d11, .int .i64 d21, .int .i64 d31, .int .i64 h11, .int .i64 h21, .int .i64 sv1, .string ⟨lt1.toArray⟩] _ hC.1 Tryz.underlying47 rfl hTi) (fun K hK => ?_)
          revert hK
          intro hK
          go_simp
          refine hK _ ?_
          clear hK K
          iterate 3
            apply exV_ex rfl ?_ (fun K hK => ?_)
            any_goals
              intro W hC
              go_simp
              all_goals exact ⟨Below.refl _ _, rfl⟩
            any_goals
              revert hK
              intro hK
              go_simp
              refine hK _ ?_
              clear hK K
          refine exV_ex rfl (fun W hC => relAt_load_arr 47 (.tmp 22) rfl b2 (o2 + k * 11) rfl #[.string ⟨nm1.toArray⟩, .int .i64 fr1, .int .i64 tl1, .int .i64 mo1, .int .i64 d11, .int .i64 d21, .int .i64 d31, .int .i64 h11, .int .i64 h21, .int .i64 sv1, .string ⟨lt1.toArray⟩] _ hC.2.1 Tryz.underlying47 rfl hTi) (fun K hK => ?_)
          revert hK
          intro hK
          go_simp
          refine hK _ ?_
          clear hK K
          refine exV_ex (v := .bool false) rfl (fun W hC => ?_) (fun K hK => ?_)
          · go_simp
            first | exact ⟨Below.refl _ _, rfl⟩ | exact Below.refl _ _
          revert hK
          intro hK
          go_simp
          refine hK _ ?_
          clear hK K
          refine exV_end fun W hC => (wpList_nil ?_)
          go_wp2_with fail
          go_roundw
          case rel => exact ⟨k + 1, by omega, by go_num, HT, hC.2.2⟩
          case measure => simp [intOf]; omega
        · have HF := Lib.hid (take_ne HX.out HY.out hxy)
          obtain ⟨nm1, fr1, tl1, mo1, ⟨d11, d21, d31⟩, ⟨h11, h21⟩, sv1, lt1⟩ := x
          obtain ⟨nm2, fr2, tl2, mo2, ⟨d12, d22, d32⟩, ⟨h12, h22⟩, sv2, lt2⟩ := y
          simp only [RuleP.cells] at HC1 HC2
          clear HX HY HA
          go_wp2_with fail
          refine wp_region_vals 9 (fun W => W.rangeAt b1 (o1 + k * 11) [.string ⟨nm1.toArray⟩, .int .i64 fr1, .int .i64 tl1, .int .i64 mo1, .int .i64 d11, .int .i64 d21, .int .i64 d31, .int .i64 h11, .int .i64 h21, .int .i64 sv1, .string ⟨lt1.toArray⟩] ∧ W.rangeAt b2 (o2 + k * 11) [.string ⟨nm2.toArray⟩, .int .i64 fr2, .int .i64 tl2, .int .i64 mo2, .int .i64 d12, .int .i64 d22, .int .i64 d32, .int .i64 h12, .int .i64 h22, .int .i64 sv2, .string ⟨lt2.toArray⟩] ∧ Below w.heap.size w W) (by kernel_rfl) (by kernel_rfl) rfl ⟨HC1.out, HC2.out, hB.drew⟩
            (fun W W' h hb => ⟨fun j v hv => (hb.cell (p := ⟨b1, o1 + k * 11 + j, none⟩) (Nat.lt_of_lt_of_le hb1 h.2.2.size)).trans (h.1 j v hv), fun j v hv => (hb.cell (p := ⟨b2, o2 + k * 11 + j, none⟩) (Nat.lt_of_lt_of_le hb2 h.2.2.size)).trans (h.2.1 j v hv), h.2.2.trans (hb.mono h.2.2.size)⟩) ?_
          iterate 3
            apply exV_ex rfl ?_ (fun K hK => ?_)
            any_goals
              intro W hC
              go_simp
              all_goals exact ⟨Below.refl _ _, rfl⟩
            any_goals
              revert hK
              intro hK
              go_simp
              refine hK _ ?_
              clear hK K
          refine exV_ex rfl (fun W hC => relAt_load_arr 47 (.tmp 18) rfl b1 (o1 + k * 11) rfl #[.string ⟨nm1.toArray⟩, .int .i64 fr1, .int .i64 tl1, .int .i64 mo1, .int .i64 d11, .int .i64 d21, .int .i64 d31, .int .i64 h11, .int .i64 h21, .int .i64 sv1, .string ⟨lt1.toArray⟩] _ hC.1 Tryz.underlying47 rfl hTi) (fun K hK => ?_)
          revert hK
          intro hK
          go_simp
          refine hK _ ?_
          clear hK K
          iterate 3
            apply exV_ex rfl ?_ (fun K hK => ?_)
            any_goals
              intro W hC
              go_simp
              all_goals exact ⟨Below.refl _ _, rfl⟩
            any_goals
              revert hK
              intro hK
              go_simp
              refine hK _ ?_
              clear hK K
          refine exV_ex rfl (fun W hC => relAt_load_arr 47 (.tmp 22) rfl b2 (o2 + k * 11) rfl #[.string ⟨nm2.toArray⟩, .int .i64 fr2, .int .i64 tl2, .int .i64 mo2, .int .i64 d12, .int .i64 d22, .int .i64 d32, .int .i64 h12, .int .i64 h22, .int .i64 sv2, .string ⟨lt2.toArray⟩] _ hC.2.1 Tryz.underlying47 rfl hTi) (fun K hK => ?_)
          revert hK
          intro hK
          go_simp
          refine hK _ ?_
          clear hK K
          refine exV_ex (v := .bool true) rfl (fun W hC => ?_) (fun K hK => ?_)
          · go_simp
            by_cases e_nm : nm1 = nm2
            rotate_left
            · rw [if_neg e_nm]
              first | exact ⟨Below.refl _ _, rfl⟩ | exact Below.refl _ _
            rw [if_pos e_nm]
            by_cases e_fr : fr1 = fr2
            rotate_left
            · rw [if_neg e_fr]
              first | exact ⟨Below.refl _ _, rfl⟩ | exact Below.refl _ _
            rw [if_pos e_fr]
            by_cases e_tl : tl1 = tl2
            rotate_left
            · rw [if_neg e_tl]
              first | exact ⟨Below.refl _ _, rfl⟩ | exact Below.refl _ _
            rw [if_pos e_tl]
            by_cases e_mo : mo1 = mo2
            rotate_left
            · rw [if_neg e_mo]
              first | exact ⟨Below.refl _ _, rfl⟩ | exact Below.refl _ _
            rw [if_pos e_mo]
            by_cases e_d1 : d11 = d12
            rotate_left
            · rw [if_neg e_d1]
              first | exact ⟨Below.refl _ _, rfl⟩ | exact Below.refl _ _
            rw [if_pos e_d1]
            by_cases e_d2 : d21 = d22
            rotate_left
            · rw [if_neg e_d2]
              first | exact ⟨Below.refl _ _, rfl⟩ | exact Below.refl _ _
            rw [if_pos e_d2]
            by_cases e_d3 : d31 = d32
            rotate_left
            · rw [if_neg e_d3]
              first | exact ⟨Below.refl _ _, rfl⟩ | exact Below.refl _ _
            rw [if_pos e_d3]
            by_cases e_h1 : h11 = h12
            rotate_left
            · rw [if_neg e_h1]
              first | exact ⟨Below.refl _ _, rfl⟩ | exact Below.refl _ _
            rw [if_pos e_h1]
            by_cases e_h2 : h21 = h22
            rotate_left
            · rw [if_neg e_h2]
              first | exact ⟨Below.refl _ _, rfl⟩ | exact Below.refl _ _
            rw [if_pos e_h2]
            by_cases e_sv : sv1 = sv2
            rotate_left
            · rw [if_neg e_sv]
              first | exact ⟨Below.refl _ _, rfl⟩ | exact Below.refl _ _
            rw [if_pos e_sv]
            by_cases e_lt : lt1 = lt2
            rotate_left
            · rw [if_neg e_lt]
              first | exact ⟨Below.refl _ _, rfl⟩ | exact Below.refl _ _
            rw [if_pos e_lt]
            exact absurd (by subst_vars; rfl) hxy
          revert hK
          intro hK
          go_simp
          refine hK _ ?_
          clear hK K
          refine exV_end fun W hC => (wpList_nil ?_)
          go_wp2_with fail
          go_ret
          exact ⟨by rw [decide_eq_false HF.out]; rfl, hC.2.2⟩
      · obtain rfl : k = ys.length := by omega
        have hd : decide ((ys.length : Int) < (ys.length : Int)) = false := by simp
        have HT := Lib.hid (show xs = ys from by
          have h := HA.out
          rwa [List.take_length, List.take_of_length_le (by omega)] at h)
        clear HA HR1 HR2 hlt hk
        go_wp2_with fail
        go_ret
        exact ⟨by rw [decide_eq_true HT.out]; rfl, hB⟩
  · have hnI : ((xs.length : Int) != (ys.length : Int)) = true := by rw [bne_iff_ne]; omega
    have HF := Lib.hid (show xs ≠ ys from fun h => hn (by rw [h]))
    clear r1 r2 hn
    go_enter Tryz.func46, Tryz.ntmps46
    go_wp2_with fail
    go_ret
    exact ⟨by rw [decide_eq_false HF.out]; rfl, Below.refl _ _⟩

set_option maxRecDepth 100000 in
set_option maxHeartbeats 1000000 in
theorem equalEra_any (xs ys : List EraP) (v u : Value) (w : World) (h1 : RowsAt w w.heap.size 13 EraP.cells v xs) (h2 : RowsAt w w.heap.size 13 EraP.cells u ys) (hl : xs.length ≤ 1048576) (hl2 : ys.length ≤ 1048576) :
    Calls Tryz.prog 45 #[v, u] w fun e w' => e = .returned (.bool (decide (xs = ys))) ∧ Below w.heap.size w w' := by
  obtain ⟨p1, c1, rfl, r1⟩ := h1
  obtain ⟨p2, c2, rfl, r2⟩ := h2
  have hTi : (Tryz.prog.info? 55).map (·.size) = some 13 := by kernel_rfl
  by_cases hn : xs.length = ys.length
  · rw [hn] at hl ⊢
    have HR1 := Lib.hid r1
    have HR2 := Lib.hid r2
    clear r1 r2
    go_enter Tryz.func45, Tryz.ntmps45
    go_wp2_with fail
    go_loopw [5, 13] (fun _ i wr => ∃ k : Nat, k ≤ ys.length ∧ i = .int .i64 (k : Int) ∧ Hid (xs.take k = ys.take k) ∧ Below w.heap.size w wr) (fun _ i _ => ys.length - (intOf i).toNat)
    case atStart => exact ⟨0, Nat.zero_le _, rfl, Lib.hid rfl, Below.refl _ _⟩
    case round =>
      obtain ⟨k, hk, rfl, HA, hB⟩ := hrel
      by_cases hlt : k < ys.length
      · obtain ⟨x, hx⟩ : ∃ x, xs[k]? = some x := ⟨_, List.getElem?_eq_getElem (by omega)⟩
        obtain ⟨y, hy⟩ : ∃ y, ys[k]? = some y := ⟨_, List.getElem?_eq_getElem hlt⟩
        obtain ⟨b1, o1, rfl, hb1, ha1⟩ := HR1.out (by intro h; rw [h] at hn; simp at hn; omega)
        obtain ⟨b2, o2, rfl, hb2, ha2⟩ := HR2.out (by intro h; rw [h] at hlt; simp at hlt)
        have HC1 := Lib.hid (show wr.drew.rangeAt b1 (o1 + k * 13) (EraP.cells x).toList from fun j v hv => (hB.cell (p := ⟨b1, o1 + k * 13 + j, none⟩) hb1).trans (ha1 k x hx j v hv))
        have HC2 := Lib.hid (show wr.drew.rangeAt b2 (o2 + k * 13) (EraP.cells y).toList from fun j v hv => (hB.cell (p := ⟨b2, o2 + k * 13 + j, none⟩) hb2).trans (ha2 k y hy j v hv))
        have hd : decide ((k : Int) < (ys.length : Int)) = true := by simp; omega
        have k0 : (0 : Int) ≤ (k : Int) := by omega
        have kl : (k : Int) < (ys.length : Int) := by omega
        have HX := Lib.hid hx
        have HY := Lib.hid hy
        clear ha1 ha2 HR1 HR2 hx hy
        by_cases hxy : x = y
        · subst hxy
          have HT := Lib.hid (take_eq HA.out HX.out HY.out rfl)
          obtain ⟨of1, kd1, sv1, st1, fm1, ⟨is1, y1, m1, ⟨d11, d21, d31⟩, ⟨h11, h21⟩⟩⟩ := x
          simp only [EraP.cells] at HC1 HC2
          clear HX HY HA
          go_wp2_with fail
          refine wp_region_vals 9 (fun W => W.rangeAt b1 (o1 + k * 13) [.int .i64 of1, .int .i64 kd1, .int .i64 sv1, .string ⟨st1.toArray⟩, .string ⟨fm1.toArray⟩, .bool is1, .int .i64 y1, .int .i64 m1, .int .i64 d11, .int .i64 d21, .int .i64 d31, .int .i64 h11, .int .i64 h21] ∧ W.rangeAt b2 (o2 + k * 13) [.int .i64 of1, .int .i64 kd1, .int .i64 sv1, .string ⟨st1.toArray⟩, .string ⟨fm1.toArray⟩, .bool is1, .int .i64 y1, .int .i64 m1, .int .i64 d11, .int .i64 d21, .int .i64 d31, .int .i64 h11, .int .i64 h21] ∧ Below w.heap.size w W) (by kernel_rfl) (by kernel_rfl) rfl ⟨HC1.out, HC2.out, hB.drew⟩
            (fun W W' h hb => ⟨fun j v hv => (hb.cell (p := ⟨b1, o1 + k * 13 + j, none⟩) (Nat.lt_of_lt_of_le hb1 h.2.2.size)).trans (h.1 j v hv), fun j v hv => (hb.cell (p := ⟨b2, o2 + k * 13 + j, none⟩) (Nat.lt_of_lt_of_le hb2 h.2.2.size)).trans (h.2.1 j v hv), h.2.2.trans (hb.mono h.2.2.size)⟩) ?_
          iterate 3
            apply exV_ex rfl ?_ (fun K hK => ?_)
            any_goals
              intro W hC
              go_simp
              all_goals exact ⟨Below.refl _ _, rfl⟩
            any_goals
              revert hK
              intro hK
              go_simp
              refine hK _ ?_
              clear hK K
          refine exV_ex rfl (fun W hC => relAt_load_arr 55 (.tmp 18) rfl b1 (o1 + k * 13) rfl #[.int .i64 of1, .int .i64 kd1, .int .i64 sv1, .string ⟨st1.toArray⟩, .string ⟨fm1.toArray⟩, .bool is1, .int .i64 y1, .int .i64 m1, .int .i64 d11, .int .i64 d21, .int .i64 d31, .int .i64 h11, .int .i64 h21] _ hC.1 Tryz.underlying55 rfl hTi) (fun K hK => ?_)
          revert hK
          intro hK
          go_simp
          refine hK _ ?_
          clear hK K
          iterate 3
            apply exV_ex rfl ?_ (fun K hK => ?_)
            any_goals
              intro W hC
              go_simp
              all_goals exact ⟨Below.refl _ _, rfl⟩
            any_goals
              revert hK
              intro hK
              go_simp
              refine hK _ ?_
              clear hK K
          refine exV_ex rfl (fun W hC => relAt_load_arr 55 (.tmp 22) rfl b2 (o2 + k * 13) rfl #[.int .i64 of1, .int .i64 kd1, .int .i64 sv1, .string ⟨st1.toArray⟩, .string ⟨fm1.toArray⟩, .bool is1, .int .i64 y1, .int .i64 m1, .int .i64 d11, .int .i64 d21, .int .i64 d31, .int .i64 h11, .int .i64 h21] _ hC.2.1 Tryz.underlying55 rfl hTi) (fun K hK => ?_)
          revert hK
          intro hK
          go_simp
          refine hK _ ?_
          clear hK K
          refine exV_ex (v := .bool false) rfl (fun W hC => ?_) (fun K hK => ?_)
          · go_simp
            first | exact ⟨Below.refl _ _, rfl⟩ | exact Below.refl _ _
          revert hK
          intro hK
          go_simp
          refine hK _ ?_
          clear hK K
          refine exV_end fun W hC => (wpList_nil ?_)
          go_wp2_with fail
          go_roundw
          case rel => exact ⟨k + 1, by omega, by go_num, HT, hC.2.2⟩
          case measure => simp [intOf]; omega
        · have HF := Lib.hid (take_ne HX.out HY.out hxy)
          obtain ⟨of1, kd1, sv1, st1, fm1, ⟨is1, y1, m1, ⟨d11, d21, d31⟩, ⟨h11, h21⟩⟩⟩ := x
          obtain ⟨of2, kd2, sv2, st2, fm2, ⟨is2, y2, m2, ⟨d12, d22, d32⟩, ⟨h12, h22⟩⟩⟩ := y
          simp only [EraP.cells] at HC1 HC2
          clear HX HY HA
          go_wp2_with fail
          refine wp_region_vals 9 (fun W => W.rangeAt b1 (o1 + k * 13) [.int .i64 of1, .int .i64 kd1, .int .i64 sv1, .string ⟨st1.toArray⟩, .string ⟨fm1.toArray⟩, .bool is1, .int .i64 y1, .int .i64 m1, .int .i64 d11, .int .i64 d21, .int .i64 d31, .int .i64 h11, .int .i64 h21] ∧ W.rangeAt b2 (o2 + k * 13) [.int .i64 of2, .int .i64 kd2, .int .i64 sv2, .string ⟨st2.toArray⟩, .string ⟨fm2.toArray⟩, .bool is2, .int .i64 y2, .int .i64 m2, .int .i64 d12, .int .i64 d22, .int .i64 d32, .int .i64 h12, .int .i64 h22] ∧ Below w.heap.size w W) (by kernel_rfl) (by kernel_rfl) rfl ⟨HC1.out, HC2.out, hB.drew⟩
            (fun W W' h hb => ⟨fun j v hv => (hb.cell (p := ⟨b1, o1 + k * 13 + j, none⟩) (Nat.lt_of_lt_of_le hb1 h.2.2.size)).trans (h.1 j v hv), fun j v hv => (hb.cell (p := ⟨b2, o2 + k * 13 + j, none⟩) (Nat.lt_of_lt_of_le hb2 h.2.2.size)).trans (h.2.1 j v hv), h.2.2.trans (hb.mono h.2.2.size)⟩) ?_
          iterate 3
            apply exV_ex rfl ?_ (fun K hK => ?_)
            any_goals
              intro W hC
              go_simp
              all_goals exact ⟨Below.refl _ _, rfl⟩
            any_goals
              revert hK
              intro hK
              go_simp
              refine hK _ ?_
              clear hK K
          refine exV_ex rfl (fun W hC => relAt_load_arr 55 (.tmp 18) rfl b1 (o1 + k * 13) rfl #[.int .i64 of1, .int .i64 kd1, .int .i64 sv1, .string ⟨st1.toArray⟩, .string ⟨fm1.toArray⟩, .bool is1, .int .i64 y1, .int .i64 m1, .int .i64 d11, .int .i64 d21, .int .i64 d31, .int .i64 h11, .int .i64 h21] _ hC.1 Tryz.underlying55 rfl hTi) (fun K hK => ?_)
          revert hK
          intro hK
          go_simp
          refine hK _ ?_
          clear hK K
          iterate 3
            apply exV_ex rfl ?_ (fun K hK => ?_)
            any_goals
              intro W hC
              go_simp
              all_goals exact ⟨Below.refl _ _, rfl⟩
            any_goals
              revert hK
              intro hK
              go_simp
              refine hK _ ?_
              clear hK K
          refine exV_ex rfl (fun W hC => relAt_load_arr 55 (.tmp 22) rfl b2 (o2 + k * 13) rfl #[.int .i64 of2, .int .i64 kd2, .int .i64 sv2, .string ⟨st2.toArray⟩, .string ⟨fm2.toArray⟩, .bool is2, .int .i64 y2, .int .i64 m2, .int .i64 d12, .int .i64 d22, .int .i64 d32, .int .i64 h12, .int .i64 h22] _ hC.2.1 Tryz.underlying55 rfl hTi) (fun K hK => ?_)
          revert hK
          intro hK
          go_simp
          refine hK _ ?_
          clear hK K
          refine exV_ex (v := .bool true) rfl (fun W hC => ?_) (fun K hK => ?_)
          · go_simp
            by_cases e_of : of1 = of2
            rotate_left
            · rw [if_neg e_of]
              first | exact ⟨Below.refl _ _, rfl⟩ | exact Below.refl _ _
            rw [if_pos e_of]
            by_cases e_kd : kd1 = kd2
            rotate_left
            · rw [if_neg e_kd]
              first | exact ⟨Below.refl _ _, rfl⟩ | exact Below.refl _ _
            rw [if_pos e_kd]
            by_cases e_sv : sv1 = sv2
            rotate_left
            · rw [if_neg e_sv]
              first | exact ⟨Below.refl _ _, rfl⟩ | exact Below.refl _ _
            rw [if_pos e_sv]
            by_cases e_st : st1 = st2
            rotate_left
            · rw [if_neg e_st]
              first | exact ⟨Below.refl _ _, rfl⟩ | exact Below.refl _ _
            rw [if_pos e_st]
            by_cases e_fm : fm1 = fm2
            rotate_left
            · rw [if_neg e_fm]
              first | exact ⟨Below.refl _ _, rfl⟩ | exact Below.refl _ _
            rw [if_pos e_fm]
            by_cases e_is : is1 = is2
            rotate_left
            · rw [if_neg e_is]
              first | exact ⟨Below.refl _ _, rfl⟩ | exact Below.refl _ _
            rw [if_pos e_is]
            by_cases e_y : y1 = y2
            rotate_left
            · rw [if_neg e_y]
              first | exact ⟨Below.refl _ _, rfl⟩ | exact Below.refl _ _
            rw [if_pos e_y]
            by_cases e_m : m1 = m2
            rotate_left
            · rw [if_neg e_m]
              first | exact ⟨Below.refl _ _, rfl⟩ | exact Below.refl _ _
            rw [if_pos e_m]
            by_cases e_d1 : d11 = d12
            rotate_left
            · rw [if_neg e_d1]
              first | exact ⟨Below.refl _ _, rfl⟩ | exact Below.refl _ _
            rw [if_pos e_d1]
            by_cases e_d2 : d21 = d22
            rotate_left
            · rw [if_neg e_d2]
              first | exact ⟨Below.refl _ _, rfl⟩ | exact Below.refl _ _
            rw [if_pos e_d2]
            by_cases e_d3 : d31 = d32
            rotate_left
            · rw [if_neg e_d3]
              first | exact ⟨Below.refl _ _, rfl⟩ | exact Below.refl _ _
            rw [if_pos e_d3]
            by_cases e_h1 : h11 = h12
            rotate_left
            · rw [if_neg e_h1]
              first | exact ⟨Below.refl _ _, rfl⟩ | exact Below.refl _ _
            rw [if_pos e_h1]
            by_cases e_h2 : h21 = h22
            rotate_left
            · rw [if_neg e_h2]
              first | exact ⟨Below.refl _ _, rfl⟩ | exact Below.refl _ _
            rw [if_pos e_h2]
            exact absurd (by subst_vars; rfl) hxy
          revert hK
          intro hK
          go_simp
          refine hK _ ?_
          clear hK K
          refine exV_end fun W hC => (wpList_nil ?_)
          go_wp2_with fail
          go_ret
          exact ⟨by rw [decide_eq_false HF.out]; rfl, hC.2.2⟩
      · obtain rfl : k = ys.length := by omega
        have hd : decide ((ys.length : Int) < (ys.length : Int)) = false := by simp
        have HT := Lib.hid (show xs = ys from by
          have h := HA.out
          rwa [List.take_length, List.take_of_length_le (by omega)] at h)
        clear HA HR1 HR2 hlt hk
        go_wp2_with fail
        go_ret
        exact ⟨by rw [decide_eq_true HT.out]; rfl, hB⟩
  · have hnI : ((xs.length : Int) != (ys.length : Int)) = true := by rw [bne_iff_ne]; omega
    have HF := Lib.hid (show xs ≠ ys from fun h => hn (by rw [h]))
    clear r1 r2 hn
    go_enter Tryz.func45, Tryz.ntmps45
    go_wp2_with fail
    go_ret
    exact ⟨by rw [decide_eq_false HF.out]; rfl, Below.refl _ _⟩

set_option maxRecDepth 100000 in
set_option maxHeartbeats 1000000 in
theorem equalLink_any (xs ys : List LinkP) (v u : Value) (w : World) (h1 : RowsAt w w.heap.size 2 LinkP.cells v xs) (h2 : RowsAt w w.heap.size 2 LinkP.cells u ys) (hl : xs.length ≤ 1048576) (hl2 : ys.length ≤ 1048576) :
    Calls Tryz.prog 48 #[v, u] w fun e w' => e = .returned (.bool (decide (xs = ys))) ∧ Below w.heap.size w w' := by
  obtain ⟨p1, c1, rfl, r1⟩ := h1
  obtain ⟨p2, c2, rfl, r2⟩ := h2
  have hTi : (Tryz.prog.info? 58).map (·.size) = some 2 := by kernel_rfl
  by_cases hn : xs.length = ys.length
  · rw [hn] at hl ⊢
    have HR1 := Lib.hid r1
    have HR2 := Lib.hid r2
    clear r1 r2
    go_enter Tryz.func48, Tryz.ntmps48
    go_wp2_with fail
    go_loopw [5, 13] (fun _ i wr => ∃ k : Nat, k ≤ ys.length ∧ i = .int .i64 (k : Int) ∧ Hid (xs.take k = ys.take k) ∧ Below w.heap.size w wr) (fun _ i _ => ys.length - (intOf i).toNat)
    case atStart => exact ⟨0, Nat.zero_le _, rfl, Lib.hid rfl, Below.refl _ _⟩
    case round =>
      obtain ⟨k, hk, rfl, HA, hB⟩ := hrel
      by_cases hlt : k < ys.length
      · obtain ⟨x, hx⟩ : ∃ x, xs[k]? = some x := ⟨_, List.getElem?_eq_getElem (by omega)⟩
        obtain ⟨y, hy⟩ : ∃ y, ys[k]? = some y := ⟨_, List.getElem?_eq_getElem hlt⟩
        obtain ⟨b1, o1, rfl, hb1, ha1⟩ := HR1.out (by intro h; rw [h] at hn; simp at hn; omega)
        obtain ⟨b2, o2, rfl, hb2, ha2⟩ := HR2.out (by intro h; rw [h] at hlt; simp at hlt)
        have HC1 := Lib.hid (show wr.drew.rangeAt b1 (o1 + k * 2) (LinkP.cells x).toList from fun j v hv => (hB.cell (p := ⟨b1, o1 + k * 2 + j, none⟩) hb1).trans (ha1 k x hx j v hv))
        have HC2 := Lib.hid (show wr.drew.rangeAt b2 (o2 + k * 2) (LinkP.cells y).toList from fun j v hv => (hB.cell (p := ⟨b2, o2 + k * 2 + j, none⟩) hb2).trans (ha2 k y hy j v hv))
        have hd : decide ((k : Int) < (ys.length : Int)) = true := by simp; omega
        have k0 : (0 : Int) ≤ (k : Int) := by omega
        have kl : (k : Int) < (ys.length : Int) := by omega
        have HX := Lib.hid hx
        have HY := Lib.hid hy
        clear ha1 ha2 HR1 HR2 hx hy
        by_cases hxy : x = y
        · subst hxy
          have HT := Lib.hid (take_eq HA.out HX.out HY.out rfl)
          obtain ⟨tg1, nm1⟩ := x
          simp only [LinkP.cells] at HC1 HC2
          clear HX HY HA
          go_wp2_with fail
          refine wp_region_vals 9 (fun W => W.rangeAt b1 (o1 + k * 2) [.string ⟨tg1.toArray⟩, .string ⟨nm1.toArray⟩] ∧ W.rangeAt b2 (o2 + k * 2) [.string ⟨tg1.toArray⟩, .string ⟨nm1.toArray⟩] ∧ Below w.heap.size w W) (by kernel_rfl) (by kernel_rfl) rfl ⟨HC1.out, HC2.out, hB.drew⟩
            (fun W W' h hb => ⟨fun j v hv => (hb.cell (p := ⟨b1, o1 + k * 2 + j, none⟩) (Nat.lt_of_lt_of_le hb1 h.2.2.size)).trans (h.1 j v hv), fun j v hv => (hb.cell (p := ⟨b2, o2 + k * 2 + j, none⟩) (Nat.lt_of_lt_of_le hb2 h.2.2.size)).trans (h.2.1 j v hv), h.2.2.trans (hb.mono h.2.2.size)⟩) ?_
          iterate 3
            apply exV_ex rfl ?_ (fun K hK => ?_)
            any_goals
              intro W hC
              go_simp
              all_goals exact ⟨Below.refl _ _, rfl⟩
            any_goals
              revert hK
              intro hK
              go_simp
              refine hK _ ?_
              clear hK K
          refine exV_ex rfl (fun W hC => relAt_load_arr 58 (.tmp 18) rfl b1 (o1 + k * 2) rfl #[.string ⟨tg1.toArray⟩, .string ⟨nm1.toArray⟩] _ hC.1 Tryz.underlying58 rfl hTi) (fun K hK => ?_)
          revert hK
          intro hK
          go_simp
          refine hK _ ?_
          clear hK K
          iterate 3
            apply exV_ex rfl ?_ (fun K hK => ?_)
            any_goals
              intro W hC
              go_simp
              all_goals exact ⟨Below.refl _ _, rfl⟩
            any_goals
              revert hK
              intro hK
              go_simp
              refine hK _ ?_
              clear hK K
          refine exV_ex rfl (fun W hC => relAt_load_arr 58 (.tmp 22) rfl b2 (o2 + k * 2) rfl #[.string ⟨tg1.toArray⟩, .string ⟨nm1.toArray⟩] _ hC.2.1 Tryz.underlying58 rfl hTi) (fun K hK => ?_)
          revert hK
          intro hK
          go_simp
          refine hK _ ?_
          clear hK K
          refine exV_ex (v := .bool false) rfl (fun W hC => ?_) (fun K hK => ?_)
          · go_simp
            first | exact ⟨Below.refl _ _, rfl⟩ | exact Below.refl _ _
          revert hK
          intro hK
          go_simp
          refine hK _ ?_
          clear hK K
          refine exV_end fun W hC => (wpList_nil ?_)
          go_wp2_with fail
          go_roundw
          case rel => exact ⟨k + 1, by omega, by go_num, HT, hC.2.2⟩
          case measure => simp [intOf]; omega
        · have HF := Lib.hid (take_ne HX.out HY.out hxy)
          obtain ⟨tg1, nm1⟩ := x
          obtain ⟨tg2, nm2⟩ := y
          simp only [LinkP.cells] at HC1 HC2
          clear HX HY HA
          go_wp2_with fail
          refine wp_region_vals 9 (fun W => W.rangeAt b1 (o1 + k * 2) [.string ⟨tg1.toArray⟩, .string ⟨nm1.toArray⟩] ∧ W.rangeAt b2 (o2 + k * 2) [.string ⟨tg2.toArray⟩, .string ⟨nm2.toArray⟩] ∧ Below w.heap.size w W) (by kernel_rfl) (by kernel_rfl) rfl ⟨HC1.out, HC2.out, hB.drew⟩
            (fun W W' h hb => ⟨fun j v hv => (hb.cell (p := ⟨b1, o1 + k * 2 + j, none⟩) (Nat.lt_of_lt_of_le hb1 h.2.2.size)).trans (h.1 j v hv), fun j v hv => (hb.cell (p := ⟨b2, o2 + k * 2 + j, none⟩) (Nat.lt_of_lt_of_le hb2 h.2.2.size)).trans (h.2.1 j v hv), h.2.2.trans (hb.mono h.2.2.size)⟩) ?_
          iterate 3
            apply exV_ex rfl ?_ (fun K hK => ?_)
            any_goals
              intro W hC
              go_simp
              all_goals exact ⟨Below.refl _ _, rfl⟩
            any_goals
              revert hK
              intro hK
              go_simp
              refine hK _ ?_
              clear hK K
          refine exV_ex rfl (fun W hC => relAt_load_arr 58 (.tmp 18) rfl b1 (o1 + k * 2) rfl #[.string ⟨tg1.toArray⟩, .string ⟨nm1.toArray⟩] _ hC.1 Tryz.underlying58 rfl hTi) (fun K hK => ?_)
          revert hK
          intro hK
          go_simp
          refine hK _ ?_
          clear hK K
          iterate 3
            apply exV_ex rfl ?_ (fun K hK => ?_)
            any_goals
              intro W hC
              go_simp
              all_goals exact ⟨Below.refl _ _, rfl⟩
            any_goals
              revert hK
              intro hK
              go_simp
              refine hK _ ?_
              clear hK K
          refine exV_ex rfl (fun W hC => relAt_load_arr 58 (.tmp 22) rfl b2 (o2 + k * 2) rfl #[.string ⟨tg2.toArray⟩, .string ⟨nm2.toArray⟩] _ hC.2.1 Tryz.underlying58 rfl hTi) (fun K hK => ?_)
          revert hK
          intro hK
          go_simp
          refine hK _ ?_
          clear hK K
          refine exV_ex (v := .bool true) rfl (fun W hC => ?_) (fun K hK => ?_)
          · go_simp
            by_cases e_tg : tg1 = tg2
            rotate_left
            · rw [if_neg e_tg]
              first | exact ⟨Below.refl _ _, rfl⟩ | exact Below.refl _ _
            rw [if_pos e_tg]
            by_cases e_nm : nm1 = nm2
            rotate_left
            · rw [if_neg e_nm]
              first | exact ⟨Below.refl _ _, rfl⟩ | exact Below.refl _ _
            rw [if_pos e_nm]
            exact absurd (by subst_vars; rfl) hxy
          revert hK
          intro hK
          go_simp
          refine hK _ ?_
          clear hK K
          refine exV_end fun W hC => (wpList_nil ?_)
          go_wp2_with fail
          go_ret
          exact ⟨by rw [decide_eq_false HF.out]; rfl, hC.2.2⟩
      · obtain rfl : k = ys.length := by omega
        have hd : decide ((ys.length : Int) < (ys.length : Int)) = false := by simp
        have HT := Lib.hid (show xs = ys from by
          have h := HA.out
          rwa [List.take_length, List.take_of_length_le (by omega)] at h)
        clear HA HR1 HR2 hlt hk
        go_wp2_with fail
        go_ret
        exact ⟨by rw [decide_eq_true HT.out]; rfl, hB⟩
  · have hnI : ((xs.length : Int) != (ys.length : Int)) = true := by rw [bne_iff_ne]; omega
    have HF := Lib.hid (show xs ≠ ys from fun h => hn (by rw [h]))
    clear r1 r2 hn
    go_enter Tryz.func48, Tryz.ntmps48
    go_wp2_with fail
    go_ret
    exact ⟨by rw [decide_eq_false HF.out]; rfl, Below.refl _ _⟩

set_option maxRecDepth 100000 in
set_option maxHeartbeats 1000000 in
theorem equalStr_any (xs ys : List (List UInt8)) (v u : Value) (w : World) (h1 : RowsAt w w.heap.size 1 encS v xs) (h2 : RowsAt w w.heap.size 1 encS u ys) (hl : xs.length ≤ 1048576) (hl2 : ys.length ≤ 1048576) :
    Calls Tryz.prog 49 #[v, u] w fun e w' => e = .returned (.bool (decide (xs = ys))) ∧ Below w.heap.size w w' := by
  obtain ⟨p1, c1, rfl, r1⟩ := h1
  obtain ⟨p2, c2, rfl, r2⟩ := h2
  by_cases hn : xs.length = ys.length
  · rw [hn] at hl ⊢
    have HR1 := Lib.hid r1
    have HR2 := Lib.hid r2
    clear r1 r2
    go_enter Tryz.func49, Tryz.ntmps49
    go_wp2_with fail
    go_loopw [5, 13] (fun _ i wr => ∃ k : Nat, k ≤ ys.length ∧ i = .int .i64 (k : Int) ∧ Hid (xs.take k = ys.take k) ∧ Below w.heap.size w wr) (fun _ i _ => ys.length - (intOf i).toNat)
    case atStart => exact ⟨0, Nat.zero_le _, rfl, Lib.hid rfl, Below.refl _ _⟩
    case round =>
      obtain ⟨k, hk, rfl, HA, hB⟩ := hrel
      by_cases hlt : k < ys.length
      · obtain ⟨x, hx⟩ : ∃ x, xs[k]? = some x := ⟨_, List.getElem?_eq_getElem (by omega)⟩
        obtain ⟨y, hy⟩ : ∃ y, ys[k]? = some y := ⟨_, List.getElem?_eq_getElem hlt⟩
        obtain ⟨b1, o1, rfl, hb1, ha1⟩ := HR1.out (by intro h; rw [h] at hn; simp at hn; omega)
        obtain ⟨b2, o2, rfl, hb2, ha2⟩ := HR2.out (by intro h; rw [h] at hlt; simp at hlt)
        have HC1 := Lib.hid (show wr.drew.rangeAt b1 (o1 + k * 1) (encS x).toList from fun j v hv => (hB.cell (p := ⟨b1, o1 + k * 1 + j, none⟩) hb1).trans (ha1 k x hx j v hv))
        have HC2 := Lib.hid (show wr.drew.rangeAt b2 (o2 + k * 1) (encS y).toList from fun j v hv => (hB.cell (p := ⟨b2, o2 + k * 1 + j, none⟩) hb2).trans (ha2 k y hy j v hv))
        have hd : decide ((k : Int) < (ys.length : Int)) = true := by simp; omega
        have k0 : (0 : Int) ≤ (k : Int) := by omega
        have kl : (k : Int) < (ys.length : Int) := by omega
        have HX := Lib.hid hx
        have HY := Lib.hid hy
        clear ha1 ha2 HR1 HR2 hx hy
        by_cases hxy : x = y
        · subst hxy
          have HT := Lib.hid (take_eq HA.out HX.out HY.out rfl)
          simp only [encS] at HC1 HC2
          clear HX HY HA
          go_wp2_with fail
          refine wp_region_vals 9 (fun W => W.rangeAt b1 (o1 + k * 1) [.string ⟨x.toArray⟩] ∧ W.rangeAt b2 (o2 + k * 1) [.string ⟨x.toArray⟩] ∧ Below w.heap.size w W) (by kernel_rfl) (by kernel_rfl) rfl ⟨HC1.out, HC2.out, hB.drew⟩
            (fun W W' h hb => ⟨fun j v hv => (hb.cell (p := ⟨b1, o1 + k * 1 + j, none⟩) (Nat.lt_of_lt_of_le hb1 h.2.2.size)).trans (h.1 j v hv), fun j v hv => (hb.cell (p := ⟨b2, o2 + k * 1 + j, none⟩) (Nat.lt_of_lt_of_le hb2 h.2.2.size)).trans (h.2.1 j v hv), h.2.2.trans (hb.mono h.2.2.size)⟩) ?_
          iterate 3
            apply exV_ex rfl ?_ (fun K hK => ?_)
            any_goals
              intro W hC
              go_simp
              all_goals exact ⟨Below.refl _ _, rfl⟩
            any_goals
              revert hK
              intro hK
              go_simp
              refine hK _ ?_
              clear hK K
          refine exV_ex (v := .string ⟨x.toArray⟩) rfl (fun W hC => ?_) (fun K hK => ?_)
          · have c := hC.1 0 _ rfl
            simp only [Nat.mul_one, Nat.add_zero] at c
            go_simp
            first | exact ⟨Below.refl _ _, rfl⟩ | exact Below.refl _ _
          revert hK
          intro hK
          go_simp
          refine hK _ ?_
          clear hK K
          iterate 3
            apply exV_ex rfl ?_ (fun K hK => ?_)
            any_goals
              intro W hC
              go_simp
              all_goals exact ⟨Below.refl _ _, rfl⟩
            any_goals
              revert hK
              intro hK
              go_simp
              refine hK _ ?_
              clear hK K
          refine exV_ex (v := .string ⟨x.toArray⟩) rfl (fun W hC => ?_) (fun K hK => ?_)
          · have c := hC.2.1 0 _ rfl
            simp only [Nat.mul_one, Nat.add_zero] at c
            go_simp
            first | exact ⟨Below.refl _ _, rfl⟩ | exact Below.refl _ _
          revert hK
          intro hK
          go_simp
          refine hK _ ?_
          clear hK K
          refine exV_ex (v := .bool false) rfl (fun W hC => ?_) (fun K hK => ?_)
          · go_simp
            first | exact ⟨Below.refl _ _, rfl⟩ | exact Below.refl _ _
          revert hK
          intro hK
          go_simp
          refine hK _ ?_
          clear hK K
          refine exV_end fun W hC => (wpList_nil ?_)
          go_wp2_with fail
          go_roundw
          case rel => exact ⟨k + 1, by omega, by go_num, HT, hC.2.2⟩
          case measure => simp [intOf]; omega
        · have HF := Lib.hid (take_ne HX.out HY.out hxy)
          simp only [encS] at HC1 HC2
          clear HX HY HA
          go_wp2_with fail
          refine wp_region_vals 9 (fun W => W.rangeAt b1 (o1 + k * 1) [.string ⟨x.toArray⟩] ∧ W.rangeAt b2 (o2 + k * 1) [.string ⟨y.toArray⟩] ∧ Below w.heap.size w W) (by kernel_rfl) (by kernel_rfl) rfl ⟨HC1.out, HC2.out, hB.drew⟩
            (fun W W' h hb => ⟨fun j v hv => (hb.cell (p := ⟨b1, o1 + k * 1 + j, none⟩) (Nat.lt_of_lt_of_le hb1 h.2.2.size)).trans (h.1 j v hv), fun j v hv => (hb.cell (p := ⟨b2, o2 + k * 1 + j, none⟩) (Nat.lt_of_lt_of_le hb2 h.2.2.size)).trans (h.2.1 j v hv), h.2.2.trans (hb.mono h.2.2.size)⟩) ?_
          iterate 3
            apply exV_ex rfl ?_ (fun K hK => ?_)
            any_goals
              intro W hC
              go_simp
              all_goals exact ⟨Below.refl _ _, rfl⟩
            any_goals
              revert hK
              intro hK
              go_simp
              refine hK _ ?_
              clear hK K
          refine exV_ex (v := .string ⟨x.toArray⟩) rfl (fun W hC => ?_) (fun K hK => ?_)
          · have c := hC.1 0 _ rfl
            simp only [Nat.mul_one, Nat.add_zero] at c
            go_simp
            first | exact ⟨Below.refl _ _, rfl⟩ | exact Below.refl _ _
          revert hK
          intro hK
          go_simp
          refine hK _ ?_
          clear hK K
          iterate 3
            apply exV_ex rfl ?_ (fun K hK => ?_)
            any_goals
              intro W hC
              go_simp
              all_goals exact ⟨Below.refl _ _, rfl⟩
            any_goals
              revert hK
              intro hK
              go_simp
              refine hK _ ?_
              clear hK K
          refine exV_ex (v := .string ⟨y.toArray⟩) rfl (fun W hC => ?_) (fun K hK => ?_)
          · have c := hC.2.1 0 _ rfl
            simp only [Nat.mul_one, Nat.add_zero] at c
            go_simp
            first | exact ⟨Below.refl _ _, rfl⟩ | exact Below.refl _ _
          revert hK
          intro hK
          go_simp
          refine hK _ ?_
          clear hK K
          refine exV_ex (v := .bool true) rfl (fun W hC => ?_) (fun K hK => ?_)
          · go_simp
            first | exact ⟨Below.refl _ _, rfl⟩ | exact Below.refl _ _
          revert hK
          intro hK
          go_simp
          refine hK _ ?_
          clear hK K
          refine exV_end fun W hC => (wpList_nil ?_)
          go_wp2_with fail
          go_ret
          exact ⟨by rw [decide_eq_false HF.out]; rfl, hC.2.2⟩
      · obtain rfl : k = ys.length := by omega
        have hd : decide ((ys.length : Int) < (ys.length : Int)) = false := by simp
        have HT := Lib.hid (show xs = ys from by
          have h := HA.out
          rwa [List.take_length, List.take_of_length_le (by omega)] at h)
        clear HA HR1 HR2 hlt hk
        go_wp2_with fail
        go_ret
        exact ⟨by rw [decide_eq_true HT.out]; rfl, hB⟩
  · have hnI : ((xs.length : Int) != (ys.length : Int)) = true := by rw [bne_iff_ne]; omega
    have HF := Lib.hid (show xs ≠ ys from fun h => hn (by rw [h]))
    clear r1 r2 hn
    go_enter Tryz.func49, Tryz.ntmps49
    go_wp2_with fail
    go_ret
    exact ⟨by rw [decide_eq_false HF.out]; rfl, Below.refl _ _⟩


set_option maxRecDepth 100000 in
set_option maxHeartbeats 1000000 in
theorem same1_any (z1 z2 : ZoneP) (v1 v2 : Value) (w : World) (h1 : RowsAt w w.heap.size 13 EraP.cells v1 z1.eras) (h2 : RowsAt w w.heap.size 13 EraP.cells v2 z2.eras) (hl1 : z1.eras.length ≤ 1048576) (hl2 : z2.eras.length ≤ 1048576) :
    Calls Tryz.prog 44 #[.agg (encZ (z1, v1)), .agg (encZ (z2, v2))] w fun e w' => e = .returned (.bool (decide (z1 = z2))) ∧ Below w.heap.size w w' := by
  obtain ⟨n1, e1⟩ := z1
  obtain ⟨n2, e2⟩ := z2
  simp only [encZ] at *
  have hb0 : Below w.heap.size w ((w.alloc (.cells #[.string ⟨n1.toArray⟩, v1] 50)).alloc (.cells #[.string ⟨n2.toArray⟩, v2] 50)) := ((Below.refl _ _).alloc (Nat.le_refl _) _).alloc (by simp) _
  have HE := Lib.hid (equalEra_any e1 e2 v1 v2 _ ((h1.below hb0).mono (by simp; omega)) ((h2.below hb0).mono (by simp; omega)) hl1 hl2)
  have HB := Lib.hid hb0
  obtain ⟨p1, c1, rfl⟩ := h1.slice
  obtain ⟨p2, c2, rfl⟩ := h2.slice
  have hR : ∀ r, decide (e1 = e2) = r → n1 = n2 → decide ((⟨n1, e1⟩ : ZoneP) = ⟨n2, e2⟩) = r := fun r hr hn => by
    subst hr; subst hn
    exact decide_eq_decide.2 ⟨fun h => (ZoneP.mk.inj h).2, fun h => by rw [h]⟩
  have HR := Lib.hid hR
  have hF : n1 ≠ n2 → decide ((⟨n1, e1⟩ : ZoneP) = ⟨n2, e2⟩) = false := fun h => decide_eq_false fun k => h (ZoneP.mk.inj k).1
  have HF := Lib.hid hF
  clear h1 h2 hb0 hR hF
  by_cases hn : n1 = n2
  · obtain ⟨r, hr⟩ : ∃ r, decide (e1 = e2) = r := ⟨_, rfl⟩
    have HD := Lib.hid (HR.out r hr hn)
    rw [hr] at HE
    subst hn
    clear HF HR hr
    obtain ⟨s, hs⟩ : ∃ s : ByteArray, (⟨n1.toArray⟩ : ByteArray) = s := ⟨_, rfl⟩
    rw [hs] at HE HB ⊢
    clear hs
    cases r
    all_goals
      go_enter Tryz.func44, Tryz.ntmps44
      go_wp2_with fail
      refine HE.out.mono ?_
      rintro e w1 ⟨rfl, hb1⟩
      have HB1 := Lib.hid (HB.out.trans (hb1.mono HB.out.size))
      clear hb1
      go_wp2_with fail
      go_ret
      exact ⟨by rw [HD.out]; rfl, HB1.out⟩
  · have HD := Lib.hid (HF.out hn)
    have hs : ((⟨n1.toArray⟩ : ByteArray).toList == (⟨n2.toArray⟩ : ByteArray).toList) = false := by
      rw [beq_eq_false_iff_ne, Lib.toList_data, Lib.toList_data]
      exact hn
    clear HE HR HF
    go_enter Tryz.func44, Tryz.ntmps44
    go_wp2_with fail
    go_ret
    exact ⟨by rw [HD.out]; rfl, HB.out⟩

set_option maxRecDepth 100000 in
set_option maxHeartbeats 2000000 in
theorem equalF_any (xs ys : List ZV) (v u : Value) (w : World) (h1 : RowsAt w w.heap.size 2 encZV v xs) (h2 : RowsAt w w.heap.size 2 encZV u ys)
    (he1 : ∀ q ∈ xs, RowsAt w w.heap.size 13 EraP.cells q.1.2 q.1.1.eras ∧ q.1.1.eras.length ≤ 1048576) (he2 : ∀ q ∈ ys, RowsAt w w.heap.size 13 EraP.cells q.1.2 q.1.1.eras ∧ q.1.1.eras.length ≤ 1048576) (hl : xs.length ≤ 1048576) (hl2 : ys.length ≤ 1048576) :
    Calls Tryz.prog 47 #[v, u, .func (.func 44) #[] #[]] w fun e w' => e = .returned (.bool (decide (xs.map (fun q => q.1.1) = ys.map (fun q => q.1.1)))) ∧ Below w.heap.size w w' := by
  obtain ⟨p1, c1, rfl, r1⟩ := h1
  obtain ⟨p2, c2, rfl, r2⟩ := h2
  have hTi : (Tryz.prog.info? 50).map (·.size) = some 2 := by kernel_rfl
  by_cases hn : xs.length = ys.length
  · rw [hn] at hl ⊢
    have HR1 := Lib.hid r1
    have HR2 := Lib.hid r2
    have HE1 := Lib.hid he1
    have HE2 := Lib.hid he2
    clear r1 r2 he1 he2
    go_enter Tryz.func47, Tryz.ntmps47
    go_wp2_with fail
    go_loopw [7, 8, 9, 17] (fun _ _ _ i wr => ∃ k : Nat, k ≤ ys.length ∧ i = .int .i64 (k : Int) ∧ Hid ((xs.map fun q => q.1.1).take k = (ys.map fun q => q.1.1).take k) ∧ Below w.heap.size w wr) (fun _ _ _ i _ => ys.length - (intOf i).toNat)
    case atStart => exact ⟨0, Nat.zero_le _, rfl, Lib.hid rfl, Below.refl _ _⟩
    case round =>
      obtain ⟨k, hk, rfl, HA, hB⟩ := hrel
      by_cases hlt : k < ys.length
      · obtain ⟨x, hx⟩ : ∃ x, xs[k]? = some x := ⟨_, List.getElem?_eq_getElem (by omega)⟩
        obtain ⟨y, hy⟩ : ∃ y, ys[k]? = some y := ⟨_, List.getElem?_eq_getElem hlt⟩
        obtain ⟨b1, o1, rfl, hb1, ha1⟩ := HR1.out (by intro h; rw [h] at hn; simp at hn; omega)
        obtain ⟨b2, o2, rfl, hb2, ha2⟩ := HR2.out (by intro h; rw [h] at hlt; simp at hlt)
        have HC1 := Lib.hid (show wr.rangeAt b1 (o1 + k * 2) (encZV x).toList from fun j v hv => (hB.cell (p := ⟨b1, o1 + k * 2 + j, none⟩) hb1).trans (ha1 k x hx j v hv))
        have HC2 := Lib.hid (show ∀ W, Below wr.heap.size wr W → W.rangeAt b2 (o2 + k * 2) (encZV y).toList from fun W hW j v hv => ((hB.trans (hW.mono hB.size)).cell (p := ⟨b2, o2 + k * 2 + j, none⟩) hb2).trans (ha2 k y hy j v hv))
        have hd : decide ((k : Int) < (ys.length : Int)) = true := by simp; omega
        have k0 : (0 : Int) ≤ (k : Int) := by omega
        have kl : (k : Int) < (ys.length : Int) := by omega
        have HX := Lib.hid (show (xs.map fun q => q.1.1)[k]? = some x.1.1 by rw [List.getElem?_map, hx]; rfl)
        have HY := Lib.hid (show (ys.map fun q => q.1.1)[k]? = some y.1.1 by rw [List.getElem?_map, hy]; rfl)
        have HS := Lib.hid (show ∀ W, Below w.heap.size w W → Calls Tryz.prog 44 #[.agg (encZV x), .agg (encZV y)] W fun e w' => e = .returned (.bool (decide (x.1.1 = y.1.1))) ∧ Below W.heap.size W w' from fun W hW =>
          same1_any x.1.1 y.1.1 x.1.2 y.1.2 W (((HE1.out x (List.mem_of_getElem? hx)).1.below hW).mono hW.size) (((HE2.out y (List.mem_of_getElem? hy)).1.below hW).mono hW.size) (HE1.out x (List.mem_of_getElem? hx)).2 (HE2.out y (List.mem_of_getElem? hy)).2)
        have k1 := zone_cells x
        have k2 := zone_cells y
        have t1 : (Tryz.prog.info? 50).map (·.size) = some (encZV x).size := by rw [k1.1]; exact hTi
        have t2 : (Tryz.prog.info? 50).map (·.size) = some (encZV y).size := by rw [k2.1]; exact hTi
        generalize encZV x = C1 at *
        generalize encZV y = C2 at *
        have hB' := Lib.hid hB
        obtain ⟨s1, o1c⟩ := k1
        obtain ⟨s2, o2c⟩ := k2
        have hz1 : Blk (wr.alloc (.cells #[.string ⟨#[]⟩, .slice none 0 0] 50)) wr.heap.size 50 #[.string ⟨#[]⟩, .slice none 0 0] := Blk.new' _ _ _ rfl
        have hth1 : (wr.alloc (.cells #[.string ⟨#[]⟩, .slice none 0 0] 50)).there wr.heap.size 0 C1.size := hz1.there (by rw [s1]; exact Nat.le_refl _)
        have hs1 := hz1.setAll C1 (by rw [s1]; rfl)
        have hbA : Below wr.heap.size wr ((wr.alloc (.cells #[.string ⟨#[]⟩, .slice none 0 0] 50)).setCells wr.heap.size 0 C1.toList) := below_sets (Nat.le_refl _) _ _ _ ((Below.refl _ _).alloc (Nat.le_refl _) _)
        clear ha1 ha2 HR1 HR2 hx hy hB HE1 HE2 hz1
        go_upto_region 6 with (first
          | (refine wpList_load_arr rfl 50 (.tmp 20) rfl b1 (o1 + k * 2) rfl C1 _ HC1.out Tryz.underlying50 rfl t1 ?_)
          | (refine wpList_store_mid rfl 50 (.tmp 8) (.tmp 21) rfl wr.heap.size 0 C1 rfl rfl hth1 t1 o1c ?_)
          | fail)
        generalize (wr.alloc (.cells #[.string ⟨#[]⟩, .slice none 0 0] 50)).setCells wr.heap.size 0 C1.toList = wa at *
        clear hth1
        have hz2 : Blk (wa.alloc (.cells #[.string ⟨#[]⟩, .slice none 0 0] 50)) wa.heap.size 50 #[.string ⟨#[]⟩, .slice none 0 0] := Blk.new' _ _ _ rfl
        have hth2 : (wa.alloc (.cells #[.string ⟨#[]⟩, .slice none 0 0] 50)).there wa.heap.size 0 C2.size := hz2.there (by rw [s2]; exact Nat.le_refl _)
        have hs2 := hz2.setAll C2 (by rw [s2]; rfl)
        have hbB : Below wa.heap.size wa ((wa.alloc (.cells #[.string ⟨#[]⟩, .slice none 0 0] 50)).setCells wa.heap.size 0 C2.toList) := below_sets (Nat.le_refl _) _ _ _ ((Below.refl _ _).alloc (Nat.le_refl _) _)
        have hs1' := hs1.below hbB hs1.lt
        have HC2a := Lib.hid (HC2.out wa hbA)
        have HBB := Lib.hid (hB'.out.trans ((hbA.trans (hbB.mono hbA.size)).mono hB'.out.size))
        have HBlk := Lib.hid (And.intro hs1' hs2)
        clear hs1 hz2 hbA hbB hs1' hs2 HC1 HC2 hB'
        go_upto_region 7 with (first
          | (refine wpList_load_arr rfl 50 (.tmp 24) rfl b2 (o2 + k * 2) rfl C2 _ HC2a.out Tryz.underlying50 rfl t2 ?_)
          | (refine wpList_store_mid rfl 50 (.tmp 9) (.tmp 25) rfl wa.heap.size 0 C2 rfl rfl hth2 t2 o2c ?_)
          | fail)
        generalize (wa.alloc (.cells #[.string ⟨#[]⟩, .slice none 0 0] 50)).setCells wa.heap.size 0 C2.toList = wb at *
        clear hth2 HC2a
        obtain ⟨r, hr⟩ : ∃ r, decide (x.1.1 = y.1.1) = r := ⟨_, rfl⟩
        rw [hr] at HS
        have HRR := Lib.hid hr
        clear hr
        cases r with
        | true =>
          have HT := Lib.hid (take_eq HA.out HX.out HY.out (of_decide_eq_true HRR.out))
          go_wp2_with (first
            | (refine wpList_load_row rfl 50 (.tmp 8) rfl wr.heap.size rfl 50 C1 (0, 0) _ HBlk.out.1 Tryz.underlying50 rfl t1 ?_)
            | (refine wpList_load_row rfl 50 (.tmp 9) rfl wa.heap.size rfl 50 C2 (0, 0) _ HBlk.out.2 Tryz.underlying50 rfl t2 ?_)
            | fail)
          refine (HS.out _ HBB.out).mono ?_
          rintro e w1 ⟨rfl, hb1⟩
          have hB1 := HBB.out.trans (hb1.mono HBB.out.size)
          clear HA HX HY
          go_wp2_with fail
          go_roundw
          case rel => exact ⟨k + 1, by omega, by go_num, HT, hB1⟩
          case measure => simp [intOf]; omega
        | false =>
          have HT := Lib.hid (take_ne HX.out HY.out (of_decide_eq_false HRR.out))
          go_wp2_with (first
            | (refine wpList_load_row rfl 50 (.tmp 8) rfl wr.heap.size rfl 50 C1 (0, 0) _ HBlk.out.1 Tryz.underlying50 rfl t1 ?_)
            | (refine wpList_load_row rfl 50 (.tmp 9) rfl wa.heap.size rfl 50 C2 (0, 0) _ HBlk.out.2 Tryz.underlying50 rfl t2 ?_)
            | fail)
          refine (HS.out _ HBB.out).mono ?_
          rintro e w1 ⟨rfl, hb1⟩
          have hB1 := HBB.out.trans (hb1.mono HBB.out.size)
          clear HA HX HY
          go_wp2_with fail
          go_ret
          exact ⟨by rw [decide_eq_false HT.out]; rfl, hB1⟩
      · obtain rfl : k = ys.length := by omega
        have hd : decide ((ys.length : Int) < (ys.length : Int)) = false := by simp
        have HT := Lib.hid (show (xs.map fun q => q.1.1) = (ys.map fun q => q.1.1) from by
          have h := HA.out
          rwa [List.take_of_length_le (by simp; omega), List.take_of_length_le (by simp)] at h)
        clear HA HR1 HR2 hlt hk
        go_wp2_with fail
        go_ret
        exact ⟨by rw [decide_eq_true HT.out]; rfl, hB⟩
  · have hnI : ((xs.length : Int) != (ys.length : Int)) = true := by rw [bne_iff_ne]; omega
    have HF := Lib.hid (show (xs.map fun q => q.1.1) ≠ (ys.map fun q => q.1.1) from fun h => hn (by have := congrArg List.length h; simpa using this))
    clear r1 r2 hn he1 he2
    go_enter Tryz.func47, Tryz.ntmps47
    go_wp2_with fail
    go_ret
    exact ⟨by rw [decide_eq_false HF.out]; rfl, Below.refl _ _⟩

structure SrcLn (s : SourceP) : Prop where
  rules : s.rules.length ≤ 1048576
  zones : s.zones.length ≤ 1048576
  links : s.links.length ≤ 1048576
  shifts : s.shifts.length ≤ 1048576
  eras : ∀ z ∈ s.zones, z.eras.length ≤ 1048576
theorem zv_of {w : World} {n : Nat} {zs : List (ZoneP × Value)} (hv : ∀ q ∈ zs, RowsAt w n 13 EraP.cells q.2 q.1.eras) : ∃ ys : List ZV, ys.map (·.1) = zs :=
  ⟨zs.attach.map fun q => ⟨q.1, (hv q.1 q.2).slice⟩, by rw [List.map_map]; exact List.attach_map_subtype_val zs⟩
theorem SrcIs.mono {w : World} {n₀ n₁ : Nat} {r z l h : Value} {zs : List (ZoneP × Value)} {s : SourceP} (k : SrcIs w n₀ r z l h zs s) (hn : n₀ ≤ n₁) : SrcIs w n₁ r z l h zs s :=
  ⟨k.1.mono hn, k.2.1.mono hn, k.2.2.1, fun q hq => (k.2.2.2.1 q hq).mono hn, k.2.2.2.2.1.mono hn, k.2.2.2.2.2.mono hn⟩
theorem SrcIs.now {w W : World} {r z l h : Value} {zs : List (ZoneP × Value)} {s : SourceP} (k : SrcIs w w.heap.size r z l h zs s) (hb : Below w.heap.size w W) : SrcIs W W.heap.size r z l h zs s := (k.below hb).mono hb.size

set_option maxRecDepth 100000 in
set_option maxHeartbeats 2000000 in
theorem same_any (r z l h r' z' l' h' : Value) (zs zs' : List (ZoneP × Value)) (s s' : SourceP) (w : World) (k1 : SrcIs w w.heap.size r z l h zs s) (k2 : SrcIs w w.heap.size r' z' l' h' zs' s') (n1 : SrcLn s) (n2 : SrcLn s') :
    Calls Tryz.prog 15 #[.agg #[r, z, l, h], .agg #[r', z', l', h']] w fun e w' => e = .returned (.bool (decide (s = s'))) ∧ Below w.heap.size w w' := by
  have hb0 : Below w.heap.size w ((w.alloc (.cells #[r, z, l, h] 27)).alloc (.cells #[r', z', l', h'] 27)) := ((Below.refl _ _).alloc (Nat.le_refl _) _).alloc (by simp) _
  have hB1 : Blk ((w.alloc (.cells #[r, z, l, h] 27)).alloc (.cells #[r', z', l', h'] 27)) w.heap.size 27 #[r, z, l, h] := (Blk.new' _ _ _ rfl).alloc _
  have hB2 : Blk ((w.alloc (.cells #[r, z, l, h] 27)).alloc (.cells #[r', z', l', h'] 27)) (w.heap.size + 1) 27 #[r', z', l', h'] := Blk.new' _ _ _ (by simp)
  have H1 := Lib.hid (fun W (hW : Below w.heap.size w W) => equalRule_any s.rules s'.rules r r' W (k1.now hW).1 (k2.now hW).1 n1.rules n2.rules)
  have H3 := Lib.hid (fun W (hW : Below w.heap.size w W) => equalLink_any s.links s'.links l l' W (k1.now hW).2.2.2.2.1 (k2.now hW).2.2.2.2.1 n1.links n2.links)
  have H4 := Lib.hid (fun W (hW : Below w.heap.size w W) => equalStr_any s.shifts s'.shifts h h' W (k1.now hW).2.2.2.2.2 (k2.now hW).2.2.2.2.2 n1.shifts n2.shifts)
  have H2 := Lib.hid (show ∀ W, Below w.heap.size w W → Calls Tryz.prog 47 #[z, z', .func (.func 44) #[] #[]] W fun e w' => e = .returned (.bool (decide (s.zones = s'.zones))) ∧ Below W.heap.size W w' from fun W hW => by
    obtain ⟨ys, hys⟩ := zv_of k1.2.2.2.1
    obtain ⟨ys', hys'⟩ := zv_of k2.2.2.2.1
    have q1 := k1.now hW
    have q2 := k2.now hW
    have e1 : ys.map (fun q => q.1.1) = s.zones := by rw [← k1.2.2.1, ← hys, List.map_map]; rfl
    have e2 : ys'.map (fun q => q.1.1) = s'.zones := by rw [← k2.2.2.1, ← hys', List.map_map]; rfl
    have l1 : ys.length = s.zones.length := by rw [← e1]; simp
    have l2 : ys'.length = s'.zones.length := by rw [← e2]; simp
    have := equalF_any ys ys' z z' W (RowsAt.unmap (fun q : ZV => q.1) ys (by rw [hys]; exact q1.2.1)) (RowsAt.unmap (fun q : ZV => q.1) ys' (by rw [hys']; exact q2.2.1))
      (fun q hq => ⟨q1.2.2.2.1 q.1 (by rw [← hys]; exact List.mem_map.2 ⟨q, hq, rfl⟩), n1.eras _ (by rw [← e1]; exact List.mem_map.2 ⟨q, hq, rfl⟩)⟩)
      (fun q hq => ⟨q2.2.2.2.1 q.1 (by rw [← hys']; exact List.mem_map.2 ⟨q, hq, rfl⟩), n2.eras _ (by rw [← e2]; exact List.mem_map.2 ⟨q, hq, rfl⟩)⟩) (by rw [l1]; exact n1.zones) (by rw [l2]; exact n2.zones)
    rwa [e1, e2] at this)
  have hR : ∀ b1 b2 b3 b4 : Bool, decide (s.rules = s'.rules) = b1 → decide (s.zones = s'.zones) = b2 → decide (s.links = s'.links) = b3 → decide (s.shifts = s'.shifts) = b4 → decide (s = s') = (b1 && b2 && b3 && b4) := fun b1 b2 b3 b4 e1 e2 e3 e4 => by
    rw [← e1, ← e2, ← e3, ← e4, ← Bool.decide_and, ← Bool.decide_and, ← Bool.decide_and]
    refine decide_eq_decide.2 ⟨fun h => by rw [h]; exact ⟨⟨⟨rfl, rfl⟩, rfl⟩, rfl⟩, fun ⟨⟨⟨q1, q2⟩, q3⟩, q4⟩ => ?_⟩
    cases s; cases s'
    simp only at q1 q2 q3 q4
    rw [q1, q2, q3, q4]
  obtain ⟨b1, hb1⟩ : ∃ b, decide (s.rules = s'.rules) = b := ⟨_, rfl⟩
  obtain ⟨b2, hb2⟩ : ∃ b, decide (s.zones = s'.zones) = b := ⟨_, rfl⟩
  obtain ⟨b3, hb3⟩ : ∃ b, decide (s.links = s'.links) = b := ⟨_, rfl⟩
  obtain ⟨b4, hb4⟩ : ∃ b, decide (s.shifts = s'.shifts) = b := ⟨_, rfl⟩
  have HR := Lib.hid (hR b1 b2 b3 b4 hb1 hb2 hb3 hb4)
  rw [hb1] at H1
  rw [hb2] at H2
  rw [hb3] at H3
  rw [hb4] at H4
  obtain ⟨p1, c1, rfl⟩ := k1.1.slice
  obtain ⟨p2, c2, rfl⟩ := k1.2.1.slice
  obtain ⟨p3, c3, rfl⟩ := k1.2.2.2.2.1.slice
  obtain ⟨p4, c4, rfl⟩ := k1.2.2.2.2.2.slice
  obtain ⟨p5, c5, rfl⟩ := k2.1.slice
  obtain ⟨p6, c6, rfl⟩ := k2.2.1.slice
  obtain ⟨p7, c7, rfl⟩ := k2.2.2.2.2.1.slice
  obtain ⟨p8, c8, rfl⟩ := k2.2.2.2.2.2.slice
  have HW := Lib.hid (And.intro hB1 (And.intro hB2 hb0))
  clear hb0 hB1 hB2 k1 k2 n1 n2 hR hb1 hb2 hb3 hb4
  cases b1
  · go_enter Tryz.func15, Tryz.ntmps15
    go_wp2_with fail
    refine (H1.out _ HW.out.2.2).mono ?_
    rintro e w1 ⟨rfl, hb1⟩
    have hB := Lib.hid (HW.out.2.2.trans (hb1.mono HW.out.2.2.size))
    clear hb1
    go_wp2_with fail
    go_ret
    exact ⟨by rw [HR.out]; rfl, hB.out⟩
  cases b2
  · go_enter Tryz.func15, Tryz.ntmps15
    go_wp2_with fail
    refine (H1.out _ HW.out.2.2).mono ?_
    rintro e w1 ⟨rfl, hb1⟩
    have q1 := HW.out.1.below hb1 HW.out.1.lt
    have q2 := HW.out.2.1.below hb1 HW.out.2.1.lt
    have c11 := q1.cell_ (i := 1) rfl
    have c21 := q2.cell_ (i := 1) rfl
    have hB := Lib.hid (HW.out.2.2.trans (hb1.mono HW.out.2.2.size))
    clear hb1 q1 q2
    go_wp2_with fail
    refine (H2.out _ hB.out).mono ?_
    rintro e w2 ⟨rfl, hb2⟩
    have hB2 := Lib.hid (hB.out.trans (hb2.mono hB.out.size))
    clear hb2
    go_wp2_with fail
    go_ret
    exact ⟨by rw [HR.out]; rfl, hB2.out⟩
  cases b3
  · go_enter Tryz.func15, Tryz.ntmps15
    go_wp2_with fail
    refine (H1.out _ HW.out.2.2).mono ?_
    rintro e w1 ⟨rfl, hb1⟩
    have q1 := HW.out.1.below hb1 HW.out.1.lt
    have q2 := HW.out.2.1.below hb1 HW.out.2.1.lt
    have c11 := q1.cell_ (i := 1) rfl
    have c21 := q2.cell_ (i := 1) rfl
    have hB := Lib.hid (And.intro q1 (And.intro q2 (HW.out.2.2.trans (hb1.mono HW.out.2.2.size))))
    clear hb1 q1 q2
    go_wp2_with fail
    refine (H2.out _ hB.out.2.2).mono ?_
    rintro e w2 ⟨rfl, hb2⟩
    have q1 := hB.out.1.below hb2 hB.out.1.lt
    have q2 := hB.out.2.1.below hb2 hB.out.2.1.lt
    have c12 := q1.cell_ (i := 2) rfl
    have c22 := q2.cell_ (i := 2) rfl
    have hB2 := Lib.hid (hB.out.2.2.trans (hb2.mono hB.out.2.2.size))
    clear hb2 q1 q2 c11 c21
    go_wp2_with fail
    refine (H3.out _ hB2.out).mono ?_
    rintro e w3 ⟨rfl, hb3⟩
    have hB3 := Lib.hid (hB2.out.trans (hb3.mono hB2.out.size))
    clear hb3
    go_wp2_with fail
    go_ret
    exact ⟨by rw [HR.out]; rfl, hB3.out⟩
  cases b4
  all_goals
    go_enter Tryz.func15, Tryz.ntmps15
    go_wp2_with fail
    refine (H1.out _ HW.out.2.2).mono ?_
    rintro e w1 ⟨rfl, hb1⟩
    have q1 := HW.out.1.below hb1 HW.out.1.lt
    have q2 := HW.out.2.1.below hb1 HW.out.2.1.lt
    have c11 := q1.cell_ (i := 1) rfl
    have c21 := q2.cell_ (i := 1) rfl
    have hB := Lib.hid (And.intro q1 (And.intro q2 (HW.out.2.2.trans (hb1.mono HW.out.2.2.size))))
    clear hb1 q1 q2
    go_wp2_with fail
    refine (H2.out _ hB.out.2.2).mono ?_
    rintro e w2 ⟨rfl, hb2⟩
    have q1 := hB.out.1.below hb2 hB.out.1.lt
    have q2 := hB.out.2.1.below hb2 hB.out.2.1.lt
    have c12 := q1.cell_ (i := 2) rfl
    have c22 := q2.cell_ (i := 2) rfl
    have hB2 := Lib.hid (And.intro q1 (And.intro q2 (hB.out.2.2.trans (hb2.mono hB.out.2.2.size))))
    clear hb2 q1 q2 c11 c21
    go_wp2_with fail
    refine (H3.out _ hB2.out.2.2).mono ?_
    rintro e w3 ⟨rfl, hb3⟩
    have q1 := hB2.out.1.below hb3 hB2.out.1.lt
    have q2 := hB2.out.2.1.below hb3 hB2.out.2.1.lt
    have c13 := q1.cell_ (i := 3) rfl
    have c23 := q2.cell_ (i := 3) rfl
    have hB3 := Lib.hid (hB2.out.2.2.trans (hb3.mono hB2.out.2.2.size))
    clear hb3 q1 q2 c12 c22
    go_wp2_with fail
    refine (H4.out _ hB3.out).mono ?_
    rintro e w4 ⟨rfl, hb4⟩
    have hB4 := Lib.hid (hB3.out.trans (hb4.mono hB3.out.size))
    clear hb4
    go_wp2_with fail
    go_ret
    exact ⟨by rw [HR.out]; rfl, hB4.out⟩

def flatC {α : Type} (enc : α → Array Value) (l : List α) : List Value := l.flatMap fun x => (enc x).toList
theorem flatC_len {α : Type} {enc : α → Array Value} {k : Nat} (h : ∀ x, (enc x).size = k) (l : List α) : (flatC enc l).length = l.length * k := by
  induction l with
  | nil => simp [flatC]
  | cons a l ih =>
    have e : flatC enc (a :: l) = (enc a).toList ++ flatC enc l := by simp [flatC]
    rw [e, List.length_append, ih, Array.length_toList, h, List.length_cons, Nat.succ_mul]
    omega
theorem flatC_at {α : Type} {enc : α → Array Value} {k : Nat} (h : ∀ x, (enc x).size = k) : ∀ (l : List α) (i j : Nat) (x : α), l[i]? = some x → j < k → (flatC enc l)[i * k + j]? = (enc x).toList[j]?
  | [], i, j, x, hx, _ => by simp at hx
  | a :: l, 0, j, x, hx, hj => by
    have e : flatC enc (a :: l) = (enc a).toList ++ flatC enc l := by simp [flatC]
    simp only [List.getElem?_cons_zero, Option.some.injEq] at hx
    subst hx
    rw [e, Nat.zero_mul, Nat.zero_add, List.getElem?_append_left (by simp [h]; exact hj)]
  | a :: l, i + 1, j, x, hx, hj => by
    have e : flatC enc (a :: l) = (enc a).toList ++ flatC enc l := by simp [flatC]
    have ih := flatC_at h l i j x (by simpa using hx) hj
    rw [e, List.getElem?_append_right (by simp [h]; rw [Nat.succ_mul]; omega), Array.length_toList, h, Nat.succ_mul, show i * k + k + j - k = i * k + j by omega]
    exact ih
theorem flatC_of {α : Type} {enc : α → Array Value} {k : Nat} (hk : 0 < k) (h : ∀ x, (enc x).size = k) (l : List α) (q : Nat) (u : Value) (hu : (flatC enc l)[q]? = some u) : ∃ x, l[q / k]? = some x ∧ (enc x).toList[q % k]? = some u := by
  have hq : q < l.length * k := by
    rcases Nat.lt_or_ge q (flatC enc l).length with hlt | hge
    · rwa [flatC_len h] at hlt
    · rw [List.getElem?_eq_none hge] at hu; cases hu
  have h1 : q / k < l.length := (Nat.div_lt_iff_lt_mul hk).2 hq
  refine ⟨l[q / k], List.getElem?_eq_getElem h1, ?_⟩
  rw [← flatC_at h l (q / k) (q % k) _ (List.getElem?_eq_getElem h1) (Nat.mod_lt _ hk), Nat.mul_comm, Nat.div_add_mod]
  exact hu
theorem RowsAt.reads {α : Type} {w : World} {n₀ k : Nat} {enc : α → Array Value} {p : Option Addr} {c : Nat} {l : List α} (hk : 0 < k) (hs : ∀ x, (enc x).size = k) (h : RowsAt w n₀ k enc (.slice p l.length c) l) : Reads w n₀ k p l.length (flatC enc l) := by
  obtain ⟨p', c', e, h2⟩ := h
  injection e with e1 e2 e3
  subst e1
  refine ⟨flatC_len hs l, fun hn => ?_⟩
  obtain ⟨b, o, rfl, hb, h3⟩ := h2 (fun h0 => by rw [h0] at hn; simp at hn)
  refine ⟨_, rfl, hb, fun j u hu => ?_⟩
  obtain ⟨x, hx, hxu⟩ := flatC_of hk hs l j u hu
  have := h3 _ x hx _ u hxu
  rw [Addr.add_mid]
  rwa [show o + j / k * k + j % k = o + j by rw [Nat.add_assoc, Nat.mul_comm, Nat.div_add_mod]] at this
theorem flatC_one {α : Type} {enc : α → Array Value} (h1 : ∀ x, (enc x).all (·.oneCell') = true) (l : List α) : ∀ u ∈ flatC enc l, u.oneCell' = true := fun u hu => by
  obtain ⟨x, _, hx⟩ := List.mem_flatMap.1 hu
  have := Array.all_eq_true.1 (h1 x)
  obtain ⟨i, hi, e⟩ := List.mem_iff_getElem.1 hx
  rw [← e]
  have h := this i (by simpa using hi)
  simpa using h
/-- an owned row as a list of rows -/
theorem rows_of_own {α : Type} {w : World} {B k : Nat} {T : TypeId} {enc : α → Array Value} {v : Value} {l : List α} (hk : 0 < k) (hs : ∀ x, (enc x).size = k) (h : w.ownsRow B T k v l.length (flatC enc l)) : RowsAt w w.heap.size k enc v l := by
  rcases h.2 with ⟨rfl, h0⟩ | ⟨g, cap, cur, rfl, _, hh, _⟩
  · exact ⟨none, 0, by rw [h0], fun hne => absurd (List.length_eq_zero_iff.1 h0) hne⟩
  · refine ⟨_, cap, rfl, fun _ => ⟨g, 0, rfl, (Array.getElem?_eq_some_iff.1 hh).1, fun i x hx j u hu => ?_⟩⟩
    have hi : i < l.length := by
      rcases Nat.lt_or_ge i l.length with h | h
      · exact h
      · rw [List.getElem?_eq_none h] at hx; cases hx
    have hj : j < k := by
      rcases Nat.lt_or_ge j k with h | h
      · exact h
      · rw [List.getElem?_eq_none (by simp [hs]; exact h)] at hu; cases hu
    rw [Nat.zero_add, h.cellAt (i * k + j) (by
      have := Nat.mul_le_mul_right k (show i + 1 ≤ l.length by omega)
      rw [Nat.succ_mul] at this
      omega), flatC_at hs l i j x hx hj]
    exact hu
theorem info_st {P : Program} {e : TypeId} {k : Nat} (h : (P.info? e).map (fun i => (i.size, decide (i.bytes ≤ 1000), i.zero.map (·.cells.size))) = some (k, true, some k)) : ∃ i z, P.info? e = some i ∧ i.zero = some z ∧ i.size = k ∧ i.bytes ≤ 1000 ∧ z.cells.size = k := by
  cases hi : P.info? e with
  | none => rw [hi] at h; cases h
  | some i =>
    rw [hi] at h
    simp only [Option.map_some, Option.some.injEq, Prod.mk.injEq, decide_eq_true_eq] at h
    cases hz : i.zero with
    | none => rw [hz] at h; simp at h
    | some z => rw [hz] at h; simp only [Option.map_some, Option.some.injEq] at h; exact ⟨i, z, rfl, hz, h.1, h.2.1, h.2.2⟩

set_option maxRecDepth 100000 in
set_option maxHeartbeats 1000000 in
theorem cloneRule_any {α : Type} (enc : α → Array Value) (hs : ∀ x, (enc x).size = 11) (h1 : ∀ x, (enc x).all (·.oneCell') = true) (l : List α) (v : Value) (w : World) (h : RowsAt w w.heap.size 11 enc v l) (hl : l.length ≤ 1048576) :
    Calls Tryz.prog 41 #[v] w fun e w' => (∃ v', e = .returned v' ∧ w'.ownsRow w.heap.size 47 11 v' l.length (flatC enc l)) ∧ Below w.heap.size w w' := by
  obtain ⟨i0, z0, hi, hz, hsz, hby, hzc⟩ := info_st (P := Tryz.prog) (e := 47) (k := 11) (by kernel_rfl)
  obtain ⟨p, c, rfl, hr⟩ := h
  cases p with
  | none =>
    have hl0 : l = [] := Decidable.byContradiction fun hne => by obtain ⟨b, o, e, _⟩ := hr hne; cases e
    subst hl0
    clear hr
    have hnil := Lib.run_eql_slice_nil (P := Tryz.prog) w 22 47 none 0 c 0 0 Tryz.underlying22
    go_enter Tryz.func41, Tryz.ntmps41
    go_wp2_with fail
    go_ret
    exact ⟨⟨_, rfl, World.ownsRow_nil ..⟩, Below.refl _ _⟩
  | some a =>
    have hb0 : Below w.heap.size w (w.alloc (.cells #[] 47)) := (Below.refl _ _).alloc (Nat.le_refl _) _
    have HR := Lib.hid (show Reads (w.alloc (.cells #[] 47)) w.heap.size 11 (some a) l.length (flatC enc l) from RowsAt.reads (by decide) hs (RowsAt.below ⟨_, c, rfl, hr⟩ hb0))
    have HO := Lib.hid (show (w.alloc (.cells #[] 47)).ownsRow w.heap.size 47 11 (.slice (some ⟨w.heap.size, 0, none⟩) 0 0) 0 [] from World.ownsRow_lit w #[] 0 (Nat.le_refl _) (by decide) rfl)
    have H1 := Lib.hid (flatC_one h1 l)
    have HB := Lib.hid hb0
    clear hr hb0 hs h1
    have hnil := Lib.run_eql_slice_nil (P := Tryz.prog) w 22 47 (some a) l.length c 0 0 Tryz.underlying22
    go_enter Tryz.func41, Tryz.ntmps41
    go_wp2_with (at_builtin; refine wpList_append_any _ rfl (.tmp 5) (.tmp 6) 22 rfl w.heap.size 47 i0 z0 11 i0.bytes Tryz.underlying22 hi hz hsz rfl hzc (by decide) _ _ _ rfl HO.out w.heap.size (some a) l.length c (flatC enc l) rfl HR.out H1.out ?c2 ?c3 ?c4 ?_)
    try (case c2 => unfold maxLen; omega)
    try (case c3 =>
      have : (0 + l.length) * i0.bytes ≤ 1048576 * 1000 := Nat.mul_le_mul (by omega) hby
      omega)
    try (case c4 => simp)
    intro v' wa hown' hgrow hv'
    have HF := Lib.hid (show wa.ownsRow w.heap.size 47 11 v' l.length (flatC enc l) ∧ Below w.heap.size w wa from by
      exact ⟨by simpa using hown', HB.out.grown hgrow HB.out.size (own_base HO.out)⟩)
    clear hown' hgrow hv'
    go_wp2_with fail
    go_ret
    exact ⟨⟨_, rfl, HF.out.1⟩, HF.out.2⟩

set_option maxRecDepth 100000 in
set_option maxHeartbeats 1000000 in
theorem cloneEra_any {α : Type} (enc : α → Array Value) (hs : ∀ x, (enc x).size = 13) (h1 : ∀ x, (enc x).all (·.oneCell') = true) (l : List α) (v : Value) (w : World) (h : RowsAt w w.heap.size 13 enc v l) (hl : l.length ≤ 1048576) :
    Calls Tryz.prog 40 #[v] w fun e w' => (∃ v', e = .returned v' ∧ w'.ownsRow w.heap.size 55 13 v' l.length (flatC enc l)) ∧ Below w.heap.size w w' := by
  obtain ⟨i0, z0, hi, hz, hsz, hby, hzc⟩ := info_st (P := Tryz.prog) (e := 55) (k := 13) (by kernel_rfl)
  obtain ⟨p, c, rfl, hr⟩ := h
  cases p with
  | none =>
    have hl0 : l = [] := Decidable.byContradiction fun hne => by obtain ⟨b, o, e, _⟩ := hr hne; cases e
    subst hl0
    clear hr
    have hnil := Lib.run_eql_slice_nil (P := Tryz.prog) w 48 55 none 0 c 0 0 Tryz.underlying48
    go_enter Tryz.func40, Tryz.ntmps40
    go_wp2_with fail
    go_ret
    exact ⟨⟨_, rfl, World.ownsRow_nil ..⟩, Below.refl _ _⟩
  | some a =>
    have hb0 : Below w.heap.size w (w.alloc (.cells #[] 55)) := (Below.refl _ _).alloc (Nat.le_refl _) _
    have HR := Lib.hid (show Reads (w.alloc (.cells #[] 55)) w.heap.size 13 (some a) l.length (flatC enc l) from RowsAt.reads (by decide) hs (RowsAt.below ⟨_, c, rfl, hr⟩ hb0))
    have HO := Lib.hid (show (w.alloc (.cells #[] 55)).ownsRow w.heap.size 55 13 (.slice (some ⟨w.heap.size, 0, none⟩) 0 0) 0 [] from World.ownsRow_lit w #[] 0 (Nat.le_refl _) (by decide) rfl)
    have H1 := Lib.hid (flatC_one h1 l)
    have HB := Lib.hid hb0
    clear hr hb0 hs h1
    have hnil := Lib.run_eql_slice_nil (P := Tryz.prog) w 48 55 (some a) l.length c 0 0 Tryz.underlying48
    go_enter Tryz.func40, Tryz.ntmps40
    go_wp2_with (at_builtin; refine wpList_append_any _ rfl (.tmp 5) (.tmp 6) 48 rfl w.heap.size 55 i0 z0 13 i0.bytes Tryz.underlying48 hi hz hsz rfl hzc (by decide) _ _ _ rfl HO.out w.heap.size (some a) l.length c (flatC enc l) rfl HR.out H1.out ?c2 ?c3 ?c4 ?_)
    try (case c2 => unfold maxLen; omega)
    try (case c3 =>
      have : (0 + l.length) * i0.bytes ≤ 1048576 * 1000 := Nat.mul_le_mul (by omega) hby
      omega)
    try (case c4 => simp)
    intro v' wa hown' hgrow hv'
    have HF := Lib.hid (show wa.ownsRow w.heap.size 55 13 v' l.length (flatC enc l) ∧ Below w.heap.size w wa from by
      exact ⟨by simpa using hown', HB.out.grown hgrow HB.out.size (own_base HO.out)⟩)
    clear hown' hgrow hv'
    go_wp2_with fail
    go_ret
    exact ⟨⟨_, rfl, HF.out.1⟩, HF.out.2⟩

set_option maxRecDepth 100000 in
set_option maxHeartbeats 1000000 in
theorem cloneZone_any {α : Type} (enc : α → Array Value) (hs : ∀ x, (enc x).size = 2) (h1 : ∀ x, (enc x).all (·.oneCell') = true) (l : List α) (v : Value) (w : World) (h : RowsAt w w.heap.size 2 enc v l) (hl : l.length ≤ 1048576) :
    Calls Tryz.prog 39 #[v] w fun e w' => (∃ v', e = .returned v' ∧ w'.ownsRow w.heap.size 50 2 v' l.length (flatC enc l)) ∧ Below w.heap.size w w' := by
  obtain ⟨i0, z0, hi, hz, hsz, hby, hzc⟩ := info_st (P := Tryz.prog) (e := 50) (k := 2) (by kernel_rfl)
  obtain ⟨p, c, rfl, hr⟩ := h
  cases p with
  | none =>
    have hl0 : l = [] := Decidable.byContradiction fun hne => by obtain ⟨b, o, e, _⟩ := hr hne; cases e
    subst hl0
    clear hr
    have hnil := Lib.run_eql_slice_nil (P := Tryz.prog) w 23 50 none 0 c 0 0 Tryz.underlying23
    go_enter Tryz.func39, Tryz.ntmps39
    go_wp2_with fail
    go_ret
    exact ⟨⟨_, rfl, World.ownsRow_nil ..⟩, Below.refl _ _⟩
  | some a =>
    have hb0 : Below w.heap.size w (w.alloc (.cells #[] 50)) := (Below.refl _ _).alloc (Nat.le_refl _) _
    have HR := Lib.hid (show Reads (w.alloc (.cells #[] 50)) w.heap.size 2 (some a) l.length (flatC enc l) from RowsAt.reads (by decide) hs (RowsAt.below ⟨_, c, rfl, hr⟩ hb0))
    have HO := Lib.hid (show (w.alloc (.cells #[] 50)).ownsRow w.heap.size 50 2 (.slice (some ⟨w.heap.size, 0, none⟩) 0 0) 0 [] from World.ownsRow_lit w #[] 0 (Nat.le_refl _) (by decide) rfl)
    have H1 := Lib.hid (flatC_one h1 l)
    have HB := Lib.hid hb0
    clear hr hb0 hs h1
    have hnil := Lib.run_eql_slice_nil (P := Tryz.prog) w 23 50 (some a) l.length c 0 0 Tryz.underlying23
    go_enter Tryz.func39, Tryz.ntmps39
    go_wp2_with (at_builtin; refine wpList_append_any _ rfl (.tmp 5) (.tmp 6) 23 rfl w.heap.size 50 i0 z0 2 i0.bytes Tryz.underlying23 hi hz hsz rfl hzc (by decide) _ _ _ rfl HO.out w.heap.size (some a) l.length c (flatC enc l) rfl HR.out H1.out ?c2 ?c3 ?c4 ?_)
    try (case c2 => unfold maxLen; omega)
    try (case c3 =>
      have : (0 + l.length) * i0.bytes ≤ 1048576 * 1000 := Nat.mul_le_mul (by omega) hby
      omega)
    try (case c4 => simp)
    intro v' wa hown' hgrow hv'
    have HF := Lib.hid (show wa.ownsRow w.heap.size 50 2 v' l.length (flatC enc l) ∧ Below w.heap.size w wa from by
      exact ⟨by simpa using hown', HB.out.grown hgrow HB.out.size (own_base HO.out)⟩)
    clear hown' hgrow hv'
    go_wp2_with fail
    go_ret
    exact ⟨⟨_, rfl, HF.out.1⟩, HF.out.2⟩

set_option maxRecDepth 100000 in
set_option maxHeartbeats 1000000 in
theorem cloneLink_any {α : Type} (enc : α → Array Value) (hs : ∀ x, (enc x).size = 2) (h1 : ∀ x, (enc x).all (·.oneCell') = true) (l : List α) (v : Value) (w : World) (h : RowsAt w w.heap.size 2 enc v l) (hl : l.length ≤ 1048576) :
    Calls Tryz.prog 42 #[v] w fun e w' => (∃ v', e = .returned v' ∧ w'.ownsRow w.heap.size 58 2 v' l.length (flatC enc l)) ∧ Below w.heap.size w w' := by
  obtain ⟨i0, z0, hi, hz, hsz, hby, hzc⟩ := info_st (P := Tryz.prog) (e := 58) (k := 2) (by kernel_rfl)
  obtain ⟨p, c, rfl, hr⟩ := h
  cases p with
  | none =>
    have hl0 : l = [] := Decidable.byContradiction fun hne => by obtain ⟨b, o, e, _⟩ := hr hne; cases e
    subst hl0
    clear hr
    have hnil := Lib.run_eql_slice_nil (P := Tryz.prog) w 24 58 none 0 c 0 0 Tryz.underlying24
    go_enter Tryz.func42, Tryz.ntmps42
    go_wp2_with fail
    go_ret
    exact ⟨⟨_, rfl, World.ownsRow_nil ..⟩, Below.refl _ _⟩
  | some a =>
    have hb0 : Below w.heap.size w (w.alloc (.cells #[] 58)) := (Below.refl _ _).alloc (Nat.le_refl _) _
    have HR := Lib.hid (show Reads (w.alloc (.cells #[] 58)) w.heap.size 2 (some a) l.length (flatC enc l) from RowsAt.reads (by decide) hs (RowsAt.below ⟨_, c, rfl, hr⟩ hb0))
    have HO := Lib.hid (show (w.alloc (.cells #[] 58)).ownsRow w.heap.size 58 2 (.slice (some ⟨w.heap.size, 0, none⟩) 0 0) 0 [] from World.ownsRow_lit w #[] 0 (Nat.le_refl _) (by decide) rfl)
    have H1 := Lib.hid (flatC_one h1 l)
    have HB := Lib.hid hb0
    clear hr hb0 hs h1
    have hnil := Lib.run_eql_slice_nil (P := Tryz.prog) w 24 58 (some a) l.length c 0 0 Tryz.underlying24
    go_enter Tryz.func42, Tryz.ntmps42
    go_wp2_with (at_builtin; refine wpList_append_any _ rfl (.tmp 5) (.tmp 6) 24 rfl w.heap.size 58 i0 z0 2 i0.bytes Tryz.underlying24 hi hz hsz rfl hzc (by decide) _ _ _ rfl HO.out w.heap.size (some a) l.length c (flatC enc l) rfl HR.out H1.out ?c2 ?c3 ?c4 ?_)
    try (case c2 => unfold maxLen; omega)
    try (case c3 =>
      have : (0 + l.length) * i0.bytes ≤ 1048576 * 1000 := Nat.mul_le_mul (by omega) hby
      omega)
    try (case c4 => simp)
    intro v' wa hown' hgrow hv'
    have HF := Lib.hid (show wa.ownsRow w.heap.size 58 2 v' l.length (flatC enc l) ∧ Below w.heap.size w wa from by
      exact ⟨by simpa using hown', HB.out.grown hgrow HB.out.size (own_base HO.out)⟩)
    clear hown' hgrow hv'
    go_wp2_with fail
    go_ret
    exact ⟨⟨_, rfl, HF.out.1⟩, HF.out.2⟩

set_option maxRecDepth 100000 in
set_option maxHeartbeats 1000000 in
theorem cloneStr_any {α : Type} (enc : α → Array Value) (hs : ∀ x, (enc x).size = 1) (h1 : ∀ x, (enc x).all (·.oneCell') = true) (l : List α) (v : Value) (w : World) (h : RowsAt w w.heap.size 1 enc v l) (hl : l.length ≤ 1048576) :
    Calls Tryz.prog 43 #[v] w fun e w' => (∃ v', e = .returned v' ∧ w'.ownsRow w.heap.size 9 1 v' l.length (flatC enc l)) ∧ Below w.heap.size w w' := by
  obtain ⟨i0, z0, hi, hz, hsz, hby, hzc⟩ := info_st (P := Tryz.prog) (e := 9) (k := 1) (by kernel_rfl)
  obtain ⟨p, c, rfl, hr⟩ := h
  cases p with
  | none =>
    have hl0 : l = [] := Decidable.byContradiction fun hne => by obtain ⟨b, o, e, _⟩ := hr hne; cases e
    subst hl0
    clear hr
    have hnil := Lib.run_eql_slice_nil (P := Tryz.prog) w 25 9 none 0 c 0 0 Tryz.underlying25
    go_enter Tryz.func43, Tryz.ntmps43
    go_wp2_with fail
    go_ret
    exact ⟨⟨_, rfl, World.ownsRow_nil ..⟩, Below.refl _ _⟩
  | some a =>
    have hb0 : Below w.heap.size w (w.alloc (.cells #[] 9)) := (Below.refl _ _).alloc (Nat.le_refl _) _
    have HR := Lib.hid (show Reads (w.alloc (.cells #[] 9)) w.heap.size 1 (some a) l.length (flatC enc l) from RowsAt.reads (by decide) hs (RowsAt.below ⟨_, c, rfl, hr⟩ hb0))
    have HO := Lib.hid (show (w.alloc (.cells #[] 9)).ownsRow w.heap.size 9 1 (.slice (some ⟨w.heap.size, 0, none⟩) 0 0) 0 [] from World.ownsRow_lit w #[] 0 (Nat.le_refl _) (by decide) rfl)
    have H1 := Lib.hid (flatC_one h1 l)
    have HB := Lib.hid hb0
    clear hr hb0 hs h1
    have hnil := Lib.run_eql_slice_nil (P := Tryz.prog) w 25 9 (some a) l.length c 0 0 Tryz.underlying25
    go_enter Tryz.func43, Tryz.ntmps43
    go_wp2_with (at_builtin; refine wpList_append_any _ rfl (.tmp 5) (.tmp 6) 25 rfl w.heap.size 9 i0 z0 1 i0.bytes Tryz.underlying25 hi hz hsz rfl hzc (by decide) _ _ _ rfl HO.out w.heap.size (some a) l.length c (flatC enc l) rfl HR.out H1.out ?c2 ?c3 ?c4 ?_)
    try (case c2 => unfold maxLen; omega)
    try (case c3 =>
      have : (0 + l.length) * i0.bytes ≤ 1048576 * 1000 := Nat.mul_le_mul (by omega) hby
      omega)
    try (case c4 => simp)
    intro v' wa hown' hgrow hv'
    have HF := Lib.hid (show wa.ownsRow w.heap.size 9 1 v' l.length (flatC enc l) ∧ Below w.heap.size w wa from by
      exact ⟨by simpa using hown', HB.out.grown hgrow HB.out.size (own_base HO.out)⟩)
    clear hown' hgrow hv'
    go_wp2_with fail
    go_ret
    exact ⟨⟨_, rfl, HF.out.1⟩, HF.out.2⟩


/-- rows of eras that lie neither in block g nor in block q -/
def RowsN (W : World) (g q : Nat) (v : Value) (l : List EraP) : Prop :=
  ∃ p c, v = .slice p l.length c ∧ (l ≠ [] → ∃ b o, p = some ⟨b, o, none⟩ ∧ b < W.heap.size ∧ b ≠ g ∧ b ≠ q ∧ ∀ i x, l[i]? = some x → W.rangeAt b (o + i * 13) x.cells.toList)
theorem RowsN.of_at {W : World} {g q n : Nat} {v : Value} {l : List EraP} (h : RowsAt W n 13 EraP.cells v l) (hn : n ≤ g) (hq : n ≤ q) (hg : g ≤ W.heap.size) : RowsN W g q v l := by
  obtain ⟨p, c, e, h2⟩ := h
  refine ⟨p, c, e, fun h0 => ?_⟩
  obtain ⟨b, o, e2, hb, h3⟩ := h2 h0
  exact ⟨b, o, e2, by omega, by omega, by omega, h3⟩
theorem RowsN.of_own {W : World} {g q B : Nat} {v : Value} {l : List EraP} (h : W.ownsRow B 55 13 v l.length (flatC EraP.cells l)) (hg : g < B) (hq : q < B) : RowsN W g q v l := by
  have hr := rows_of_own (by decide) (fun x => (eraOk_cells x).1) h
  obtain ⟨p, c, e, h2⟩ := hr
  refine ⟨p, c, e, fun h0 => ?_⟩
  obtain ⟨b, o, e2, hb, h3⟩ := h2 h0
  have hB : B ≤ b := by
    rcases h.2 with ⟨hv, _⟩ | ⟨g', cap, cur, hv, hB, _⟩
    · rw [hv] at e; injection e with e1 _ _; rw [e2] at e1; cases e1
    · rw [hv] at e; injection e with e1 _ _; rw [e2] at e1; injection e1 with e1; injection e1 with e1 _ _; omega
  exact ⟨b, o, e2, hb, by omega, by omega, h3⟩
theorem RowsN.below {W W' : World} {g q : Nat} {v : Value} {l : List EraP} (h : RowsN W g q v l) (hb : Below W.heap.size W W') : RowsN W' g q v l := by
  obtain ⟨p, c, e, h2⟩ := h
  refine ⟨p, c, e, fun h0 => ?_⟩
  obtain ⟨b, o, e2, hlt, hne, hnq, h3⟩ := h2 h0
  exact ⟨b, o, e2, Nat.lt_of_lt_of_le hlt hb.size, hne, hnq, fun i x hx j u hu => (hb.cell (p := ⟨b, o + i * 13 + j, none⟩) hlt).trans (h3 i x hx j u hu)⟩
theorem RowsN.set {W : World} {g q y : Nat} {v u : Value} {l : List EraP} (h : RowsN W g q v l) {t : Nat} (ht : t = g ∨ t = q) : RowsN (W.setCell ⟨t, y, none⟩ u) g q v l := by
  obtain ⟨p, c, e, h2⟩ := h
  refine ⟨p, c, e, fun h0 => ?_⟩
  obtain ⟨b, o, e2, hlt, hne, hnq, h3⟩ := h2 h0
  have hbt : b ≠ t := by rcases ht with rfl | rfl <;> assumption
  exact ⟨b, o, e2, by simpa using hlt, hne, hnq, fun i x hx j u hu => (World.cell?_setCell_other _ _ _ _ (by intro k; injection k with k; exact hbt k.symm)).trans (h3 i x hx j u hu)⟩
theorem RowsN.at_ {W : World} {g q : Nat} {v : Value} {l : List EraP} (h : RowsN W g q v l) : RowsAt W W.heap.size 13 EraP.cells v l := by
  obtain ⟨p, c, e, h2⟩ := h
  refine ⟨p, c, e, fun h0 => ?_⟩
  obtain ⟨b, o, e2, hlt, hne, hnq, h3⟩ := h2 h0
  exact ⟨b, o, e2, hlt, h3⟩
/-- the cloned zones, while their eras are cloned -/
structure ZRow (W : World) (g q : Nat) (cur : List ZV) : Prop where
  lt : g < W.heap.size
  fr : ∀ j, W.frozen? ⟨g, j, none⟩ = false
  nm : ∀ (i : Nat) (x : ZV), cur[i]? = some x → W.cell? ⟨g, i * 2, none⟩ = some (.string ⟨x.1.1.name.toArray⟩)
  er : ∀ (i : Nat) (x : ZV), cur[i]? = some x → W.cell? ⟨g, i * 2 + 1, none⟩ = some x.1.2
  rows : ∀ (i : Nat) (x : ZV), cur[i]? = some x → RowsN W g q x.1.2 x.1.1.eras
theorem ZRow.below {W W' : World} {g q : Nat} {cur : List ZV} (h : ZRow W g q cur) (hb : Below W.heap.size W W') : ZRow W' g q cur :=
  ⟨Nat.lt_of_lt_of_le h.lt hb.size, fun j => (hb.frozen h.lt).trans (h.fr j), fun i x hx => (hb.cell (p := ⟨g, i * 2, none⟩) h.lt).trans (h.nm i x hx), fun i x hx => (hb.cell (p := ⟨g, i * 2 + 1, none⟩) h.lt).trans (h.er i x hx), fun i x hx => (h.rows i x hx).below hb⟩
theorem ZRow.set {W : World} {g q i : Nat} {cur : List ZV} {x : ZV} {v : Value} (h : ZRow W g q cur) (hx : cur[i]? = some x) (hv : RowsN W g q v x.1.1.eras) (hs : ∃ p c, v = .slice p x.1.1.eras.length c) : ZRow (W.setCell ⟨g, i * 2 + 1, none⟩ v) g q (cur.set i ⟨(x.1.1, v), hs⟩) := by
  have hi : i < cur.length := by
    rcases Nat.lt_or_ge i cur.length with h | h
    · exact h
    · rw [List.getElem?_eq_none h] at hx; cases hx
  have cs : ∀ j y, (cur.set i ⟨(x.1.1, v), hs⟩)[j]? = some y → (j = i ∧ y = ⟨(x.1.1, v), hs⟩) ∨ (j ≠ i ∧ cur[j]? = some y) := fun j y hy => by
    by_cases hj : j = i
    · subst hj
      rw [List.getElem?_set_self hi] at hy
      exact .inl ⟨rfl, (Option.some.inj hy).symm⟩
    · rw [List.getElem?_set_ne (Ne.symm hj)] at hy
      exact .inr ⟨hj, hy⟩
  refine ⟨by simpa using h.lt, fun j => by rw [World.frozen?_setCell]; exact h.fr j, fun j y hy => ?_, fun j y hy => ?_, fun j y hy => ?_⟩
  · rcases cs j y hy with ⟨rfl, rfl⟩ | ⟨_, hy⟩
    · exact (World.cell?_setCell_other _ _ _ _ (by simp)).trans (h.nm j x hx)
    · exact (World.cell?_setCell_other _ _ _ _ (by simp)).trans (h.nm j y hy)
  · rcases cs j y hy with ⟨rfl, rfl⟩ | ⟨hj, hy⟩
    · exact World.cell?_setCell_same' _ _ _ (by rw [h.er j x hx]; rfl)
    · exact (World.cell?_setCell_other _ _ _ _ (by simp)).trans (h.er j y hy)
  · rcases cs j y hy with ⟨rfl, rfl⟩ | ⟨_, hy⟩
    · exact hv.set (.inl rfl)
    · exact (h.rows j y hy).set (.inl rfl)
theorem ZRow.at_ {W : World} {g q c : Nat} {cur : List ZV} (h : ZRow W g q cur) : RowsAt W W.heap.size 2 encZV (.slice (some ⟨g, 0, none⟩) cur.length c) cur :=
  ⟨_, c, rfl, fun _ => ⟨g, 0, rfl, h.lt, fun i x hx j u hu => by
    rw [Nat.zero_add]
    match j, hu with
    | 0, hu => cases hu; exact h.nm i x hx
    | 1, hu => cases hu; exact h.er i x hx
    | j + 2, hu => simp [encZV, encZ] at hu⟩⟩
theorem ZRow.far {W : World} {g q y : Nat} {cur : List ZV} {v : Value} (h : ZRow W g q cur) (hne : q ≠ g) : ZRow (W.setCell ⟨q, y, none⟩ v) g q cur :=
  ⟨by simpa using h.lt, fun j => by rw [World.frozen?_setCell]; exact h.fr j, fun i x hx => (World.cell?_setCell_other _ _ _ _ (by intro k; injection k with k; exact hne k)).trans (h.nm i x hx), fun i x hx => (World.cell?_setCell_other _ _ _ _ (by intro k; injection k with k; exact hne k)).trans (h.er i x hx), fun i x hx => (h.rows i x hx).set (.inr rfl)⟩

def OwnV (T : TypeId) (k B n : Nat) (cs : List Value) (v : Value) (W : World) : Prop := W.ownsRow B T k v n cs
theorem OwnV.last (T : TypeId) (k B n : Nat) (cs : List Value) : Lasts (OwnV T k B n cs) := fun _ _ _ hb h => own_kept h hb
theorem own_mono {B B' : Nat} {e : TypeId} {k : Nat} {v : Value} {n : Nat} {xs : List Value} {w : World} (h : w.ownsRow B e k v n xs) (hB : B' ≤ B) : w.ownsRow B' e k v n xs := by
  refine ⟨h.1, ?_⟩
  rcases h.2 with h2 | ⟨g, cap, cur, e1, hg, rest⟩
  · exact .inl h2
  · exact .inr ⟨g, cap, cur, e1, Nat.le_trans hB hg, rest⟩
theorem zrow_of_own {W : World} {B n q : Nat} {v : Value} {ys : List ZV} (h : W.ownsRow B 50 2 v ys.length (flatC encZV ys)) (hold : ∀ q ∈ ys, RowsAt W n 13 EraP.cells q.1.2 q.1.1.eras) (hn : n ≤ B) (hq : n ≤ q) :
    ∃ p c, v = .slice p ys.length c ∧ (0 < ys.length → ∃ g, p = some ⟨g, 0, none⟩ ∧ B ≤ g ∧ ZRow W g q ys) := by
  have hr := rows_of_own (by decide) (fun x => (zone_cells x).1) h
  rcases h.2 with ⟨rfl, h0⟩ | ⟨g, cap, cur, rfl, hB, hh, _⟩
  · exact ⟨none, 0, by rw [h0], fun hp => absurd hp (by omega)⟩
  · refine ⟨_, cap, rfl, fun hp => ⟨g, rfl, hB, ?_⟩⟩
    obtain ⟨p, c, e, h2⟩ := hr
    injection e with e1 _ _
    obtain ⟨b, o, e2, hlt, h3⟩ := h2 (fun h => by rw [h] at hp; simp at hp)
    rw [← e1] at e2
    injection e2 with e2
    injection e2 with e3 e4 _
    subst e3 e4
    refine ⟨hlt, fun j => h.frozenAt j, fun i x hx => ?_, fun i x hx => ?_, fun i x hx => ?_⟩
    · have := h3 i x hx 0 _ rfl
      rwa [Nat.zero_add] at this
    · have := h3 i x hx 1 _ rfl
      rwa [Nat.zero_add] at this
    · exact RowsN.of_at (hold x (List.mem_of_getElem? hx)) (by omega) (by omega) (Nat.le_of_lt hlt)
def CSt (w : World) (C : Array Value) (p : Option Addr) (cur : List ZV) (W : World) : Prop :=
  Blk W w.heap.size 27 C ∧ Blk W (w.heap.size + 1) 27 #[.slice none 0 0, .slice none 0 0, .slice none 0 0, .slice none 0 0] ∧ Below w.heap.size w W ∧ (0 < cur.length → ∃ g, p = some ⟨g, 0, none⟩ ∧ w.heap.size + 2 ≤ g ∧ ZRow W g (w.heap.size + 1) cur)
theorem CSt.below {w W W' : World} {C : Array Value} {p : Option Addr} {cur : List ZV} (h : CSt w C p cur W) (hb : Below W.heap.size W W') : CSt w C p cur W' :=
  ⟨h.1.below hb h.1.lt, h.2.1.below hb h.2.1.lt, h.2.2.1.trans (hb.mono h.2.2.1.size), fun hp => by obtain ⟨g, e, hg, hz⟩ := h.2.2.2 hp; exact ⟨g, e, hg, hz.below hb⟩⟩
theorem CSt.drew {w W : World} {C : Array Value} {p : Option Addr} {cur : List ZV} (h : CSt w C p cur W) : CSt w C p cur W.drew := h.below (Below.refl _ _).drew

theorem OwnV.form {T : TypeId} {k B n : Nat} {cs : List Value} {v : Value} {W : World} (h : OwnV T k B n cs v W) : ∃ p c, v = .slice p n c := by
  rcases h.2 with ⟨rfl, h0⟩ | ⟨g, cap, cur, rfl, _⟩
  · exact ⟨none, 0, by rw [h0]⟩
  · exact ⟨_, cap, rfl⟩
theorem own_far {B q j k n : Nat} {e : TypeId} {v : Value} {xs : List Value} {W : World} (h : W.ownsRow B e k v n xs) (hq : q < B) (u : Value) : (W.setCell ⟨q, j, none⟩ u).ownsRow B e k v n xs := by
  refine ⟨h.1, ?_⟩
  rcases h.2 with h2 | ⟨g, cap, cur, e1, hg, hh, rest⟩
  · exact .inl h2
  · exact .inr ⟨g, cap, cur, e1, hg, Blk.far (show Blk W g e cur from hh) (by show g ≠ q; omega) u, rest⟩
theorem RowsAt.map_ {α β : Type} {w : World} {n k m : Nat} {enc : α → Array Value} {p : Option Addr} {c : Nat} {g : β → α} {l : List β} (h : RowsAt w n k (fun x => enc (g x)) (.slice p m c) l) (hm : m = l.length) : RowsAt w n k enc (.slice p m c) (l.map g) := by
  obtain ⟨p', c', e, h2⟩ := h
  injection e with e1 e2 e3
  subst e1
  refine ⟨p, c, by rw [List.length_map, hm], fun h0 => ?_⟩
  obtain ⟨b, o, e4, hlt, h3⟩ := h2 (fun h => h0 (by rw [h]; rfl))
  refine ⟨b, o, e4, hlt, fun i x hx => ?_⟩
  rw [List.getElem?_map] at hx
  cases hy : l[i]? with
  | none => rw [hy] at hx; cases hx
  | some y => rw [hy] at hx; cases hx; exact h3 i y hy

set_option maxRecDepth 100000 in
set_option maxHeartbeats 2000000 in
theorem copy_any (r z l h : Value) (zs : List (ZoneP × Value)) (s : SourceP) (w : World) (hs : SrcIs w w.heap.size r z l h zs s) (hn : SrcLn s) :
    Calls Tryz.prog 14 #[.agg #[r, z, l, h]] w fun e w' => (∃ r' z' l' h' zs', e = .returned (.agg #[r', z', l', h']) ∧ SrcIs w' w'.heap.size r' z' l' h' zs' s) ∧ Below w.heap.size w w' := by
  obtain ⟨ys, hys⟩ := zv_of hs.2.2.2.1
  have eys : ys.map (fun q => q.1.1) = s.zones := by rw [← hs.2.2.1, ← hys, List.map_map]; rfl
  have lys : ys.length = s.zones.length := by rw [← eys]; simp
  have hold : ∀ W, Below w.heap.size w W → ∀ q ∈ ys, RowsAt W w.heap.size 13 EraP.cells q.1.2 q.1.1.eras := fun W hW q hq => (hs.2.2.2.1 q.1 (by rw [← hys]; exact List.mem_map.2 ⟨q, hq, rfl⟩)).below hW
  have hel : ∀ cur : List ZV, cur.map (fun q => q.1.1) = s.zones → ∀ x ∈ cur, x.1.1.eras.length ≤ 1048576 := fun cur hc x hx => hn.eras _ (by rw [← hc]; exact List.mem_map.2 ⟨x, hx, rfl⟩)
  have HC1 := Lib.hid (fun W (hW : Below w.heap.size w W) (hW2 : w.heap.size + 2 ≤ W.heap.size) => (cloneRule_any RuleP.cells (fun x => (rule_cells x).1) (fun x => (rule_cells x).2) s.rules r W (hs.now hW).1 hn.rules).mono (R' := fun e w' => (∃ v', e = .returned v' ∧ OwnV 47 11 (w.heap.size + 2) s.rules.length (flatC RuleP.cells s.rules) v' w') ∧ Below W.heap.size W w') fun e w' ⟨⟨v', he, ho⟩, hb⟩ => ⟨⟨v', he, own_mono ho hW2⟩, hb⟩)
  have HC3 := Lib.hid (fun W (hW : Below w.heap.size w W) (hW2 : w.heap.size + 2 ≤ W.heap.size) => (cloneLink_any LinkP.cells (fun x => (link_cells x).1) (fun x => (link_cells x).2) s.links l W (hs.now hW).2.2.2.2.1 hn.links).mono (R' := fun e w' => (∃ v', e = .returned v' ∧ OwnV 58 2 (w.heap.size + 2) s.links.length (flatC LinkP.cells s.links) v' w') ∧ Below W.heap.size W w') fun e w' ⟨⟨v', he, ho⟩, hb⟩ => ⟨⟨v', he, own_mono ho hW2⟩, hb⟩)
  have HC4 := Lib.hid (fun W (hW : Below w.heap.size w W) (hW2 : w.heap.size + 2 ≤ W.heap.size) => (cloneStr_any encS (fun x => rfl) (fun x => by simp [encS, Value.oneCell']) s.shifts h W (hs.now hW).2.2.2.2.2 hn.shifts).mono (R' := fun e w' => (∃ v', e = .returned v' ∧ OwnV 9 1 (w.heap.size + 2) s.shifts.length (flatC encS s.shifts) v' w') ∧ Below W.heap.size W w') fun e w' ⟨⟨v', he, ho⟩, hb⟩ => ⟨⟨v', he, own_mono ho hW2⟩, hb⟩)
  have HC2 := Lib.hid (fun W (hW : Below w.heap.size w W) => cloneZone_any encZV (fun x => (zone_cells x).1) (fun x => (zone_cells x).2) ys z W (RowsAt.unmap (fun q : ZV => q.1) ys (by rw [hys]; exact (hs.now hW).2.1)) (by rw [lys]; exact hn.zones))
  have HCE := Lib.hid (fun (W : World) (g : Nat) (x : ZV) (hx : RowsN W g (w.heap.size + 1) x.1.2 x.1.1.eras) (hg : g < W.heap.size) (hq : w.heap.size + 1 < W.heap.size) (hxl : x.1.1.eras.length ≤ 1048576) => (cloneEra_any EraP.cells (fun x => (eraOk_cells x).1) (fun x => (eraOk_cells x).2) x.1.1.eras x.1.2 W hx.at_ hxl).mono (R' := fun e w' => (∃ v', e = .returned v' ∧ RowsN w' g (w.heap.size + 1) v' x.1.1.eras) ∧ Below W.heap.size W w') fun e w' ⟨⟨v', he, ho⟩, hb⟩ => ⟨⟨v', he, RowsN.of_own ho hg hq⟩, hb⟩)
  have hb0 : Below w.heap.size w ((w.alloc (.cells #[r, z, l, h] 27)).alloc (.cells #[.slice none 0 0, .slice none 0 0, .slice none 0 0, .slice none 0 0] 27)) := ((Below.refl _ _).alloc (Nat.le_refl _) _).alloc (by simp) _
  have HB0 := Lib.hid (show Blk ((w.alloc (.cells #[r, z, l, h] 27)).alloc (.cells #[.slice none 0 0, .slice none 0 0, .slice none 0 0, .slice none 0 0] 27)) w.heap.size 27 #[r, z, l, h] ∧ Blk ((w.alloc (.cells #[r, z, l, h] 27)).alloc (.cells #[.slice none 0 0, .slice none 0 0, .slice none 0 0, .slice none 0 0] 27)) (w.heap.size + 1) 27 #[.slice none 0 0, .slice none 0 0, .slice none 0 0, .slice none 0 0] ∧ Below w.heap.size w ((w.alloc (.cells #[r, z, l, h] 27)).alloc (.cells #[.slice none 0 0, .slice none 0 0, .slice none 0 0, .slice none 0 0] 27)) from ⟨(Blk.new' _ _ _ rfl).alloc _, Blk.new' _ _ _ (by simp), hb0⟩)
  have HOL := Lib.hid hold
  have HEL := Lib.hid hel
  have HEY := Lib.hid eys
  have HLN := Lib.hid hn
  obtain ⟨p1', c1', rfl⟩ := hs.1.slice
  obtain ⟨p2', c2', rfl⟩ := hs.2.1.slice
  obtain ⟨p3', c3', rfl⟩ := hs.2.2.2.2.1.slice
  obtain ⟨p4', c4', rfl⟩ := hs.2.2.2.2.2.slice
  have hnz : ys.length ≤ 1048576 := by rw [lys]; exact hn.zones
  clear hs hn hold hel eys lys hb0 hys
  go_enter Tryz.func14, Tryz.ntmps14
  go_wp2_with fail
  refine (HC2.out _ HB0.out.2.2).mono ?_
  rintro e w1 ⟨⟨v1, rfl, hown⟩, hb1⟩
  have hb1' := HB0.out.2.2.trans (hb1.mono HB0.out.2.2.size)
  obtain ⟨p1, c1, rfl, hz1⟩ := zrow_of_own (q := w.heap.size + 1) hown (HOL.out _ hb1') (by simp; omega) (by omega)
  have HS1 := Lib.hid (show CSt w #[_, _, _, _] p1 ys w1 from ⟨HB0.out.1.below hb1 HB0.out.1.lt, HB0.out.2.1.below hb1 HB0.out.2.1.lt, hb1', fun hp => by obtain ⟨g, e, hg, hz⟩ := hz1 hp; exact ⟨g, e, by simpa using hg, hz⟩⟩)
  clear hown hb1 hb1' hz1 HB0 HC2
  generalize hSC : (#[Value.slice p1' s.rules.length c1', Value.slice p2' zs.length c2', Value.slice p3' s.links.length c3', Value.slice p4' s.shifts.length c4'] : Array Value) = SC at HS1
  have HSC := Lib.hid hSC
  clear hSC
  have hN := HEY.out
  have HN := Lib.hid (show ys.length = ys.length ∧ ys.map (fun q => q.1.1) = s.zones from ⟨rfl, hN⟩)
  obtain ⟨N, hNN⟩ : ∃ N, ys.length = N := ⟨_, rfl⟩
  rw [hNN] at hnz
  have HNN := Lib.hid hNN
  clear hN
  go_wp2_with fail
  clear hNN
  go_loopw [4, 10] (fun _ i wr => ∃ (k : Nat) (cur : List ZV), k ≤ N ∧ i = .int .i64 (k : Int) ∧ Hid (cur.length = N ∧ cur.map (fun q => q.1.1) = s.zones ∧ CSt w SC p1 cur wr)) (fun _ i _ => N - (intOf i).toNat)
  case atStart => exact ⟨0, ys, Nat.zero_le _, rfl, Lib.hid ⟨HNN.out, HN.out.2, HS1.out⟩⟩
  case round =>
    clear HS1 HN
    obtain ⟨k, cur, hk, rfl, HI⟩ := hrel
    by_cases hlt : k < N
    · obtain ⟨x, hx⟩ : ∃ x, cur[k]? = some x := ⟨_, List.getElem?_eq_getElem (by have := HI.out.1; omega)⟩
      obtain ⟨g, rfl, hg, hz⟩ := HI.out.2.2.2.2.2 (by have := HI.out.1; omega)
      have hd : decide ((k : Int) < (N : Int)) = true := by simp; omega
      have k0 : (0 : Int) ≤ (k : Int) := by omega
      have kl : (k : Int) < (N : Int) := by omega
      have ce := hz.er k x hx
      have HCx := Lib.hid (HCE.out wr g x (hz.rows k x hx) hz.lt HI.out.2.2.2.1.lt (HEL.out cur HI.out.2.1 x (List.mem_of_getElem? hx)))
      have HX := Lib.hid hx
      have HZ := Lib.hid hz
      obtain ⟨xv, hxv⟩ : ∃ v, x.1.2 = v := ⟨_, rfl⟩
      obtain ⟨px, cx, hpx⟩ := x.2
      rw [hpx] at ce HCx
      clear hx hz hxv HCE
      go_wp2_with fail
      refine HCx.out.mono ?_
      rintro e w2 ⟨⟨v', rfl, hr⟩, hb2⟩
      have hz2 := HZ.out.below hb2
      obtain ⟨p5, c5, hv5⟩ : ∃ p c, v' = .slice p x.1.1.eras.length c := by obtain ⟨p, c, e, _⟩ := hr; exact ⟨p, c, e⟩
      subst hv5
      have ce2 := hz2.er k x HX.out
      have cf2 := hz2.fr (k * 2 + 1)
      have HI2 := Lib.hid (show (cur.set k ⟨(x.1.1, .slice p5 x.1.1.eras.length c5), ⟨p5, c5, rfl⟩⟩).length = N ∧ (cur.set k ⟨(x.1.1, .slice p5 x.1.1.eras.length c5), ⟨p5, c5, rfl⟩⟩).map (fun q => q.1.1) = s.zones ∧ CSt w SC (some ⟨g, 0, none⟩) (cur.set k ⟨(x.1.1, .slice p5 x.1.1.eras.length c5), ⟨p5, c5, rfl⟩⟩) (w2.setCell ⟨g, k * 2 + 1, none⟩ (.slice p5 x.1.1.eras.length c5)) from by
        have hS := HI.out.2.2.below hb2
        refine ⟨by rw [List.length_set]; exact HI.out.1, ?_, hS.1.far (by simp; omega) _, hS.2.1.far (by simp; omega) _, hS.2.2.1.setCell (by show w.heap.size ≤ g; omega) _, fun _ => ⟨g, rfl, hg, hz2.set HX.out hr _⟩⟩
        rw [List.map_set]
        rw [← HI.out.2.1]
        refine List.ext_getElem? fun j => ?_
        by_cases hj : k = j
        · subst hj
          rw [List.getElem?_set_self (by have := HI.out.1; simp; omega), List.getElem?_map, HX.out]
          rfl
        · rw [List.getElem?_set_ne hj])
      clear hr hb2 hz2 HI HCx HX HZ ce
      go_wp2_with fail
      go_roundw
      case rel => exact ⟨k + 1, _, by omega, by go_num, HI2⟩
      case measure => simp [intOf]; omega
    · obtain rfl : k = N := by omega
      have hd : decide ((k : Int) < (k : Int)) = false := by simp
      have HS7 := Lib.hid HI.out.2.2
      have HE7 := Lib.hid (And.intro HI.out.1 HI.out.2.1)
      clear HI hlt hk HCE HOL HEL HEY
      rw [← HSC.out] at HS7
      go_wp2_with fail
      refine wp_region_rels 10 [[], [], [], [], [], [], [], [], [], []] [Form.val, Form.val, Form.rel (OwnV 47 11 (w.heap.size + 2) s.rules.length (flatC RuleP.cells s.rules)), Form.val, Form.val, Form.val, Form.rel (OwnV 58 2 (w.heap.size + 2) s.links.length (flatC LinkP.cells s.links)), Form.val, Form.val, Form.rel (OwnV 9 1 (w.heap.size + 2) s.shifts.length (flatC encS s.shifts))] (CSt w #[.slice p1' s.rules.length c1', .slice p2' zs.length c2', .slice p3' s.links.length c3', .slice p4' s.shifts.length c4'] p1 cur) (by kernel_rfl) (by kernel_rfl) rfl rfl (HS7.out.drew) (fun W W2 k hb => k.below hb) ⟨OwnV.last _ _ _ _ _, OwnV.last _ _ _ _ _, OwnV.last _ _ _ _ _, trivial⟩ ?_
      repeat (first | apply exSpec_rel | apply exSpec_new | apply exSpec_val)
      apply relWalk_ex rfl ?o0 (fun K hK => ?n0)
      case o0 =>
        intro W hC hF
        have c0 := hC.1.cell_ (i := 0) rfl
        have c2 := hC.1.cell_ (i := 2) rfl
        have c3 := hC.1.cell_ (i := 3) rfl
        go_simp
        all_goals exact ⟨Below.refl _ _, rfl⟩
      case' n0 =>
        go_simp
        refine hK _ ?_
        clear hK K
      apply relWalk_ex rfl ?o1 (fun K hK => ?n1)
      case o1 =>
        intro W hC hF
        have c0 := hC.1.cell_ (i := 0) rfl
        have c2 := hC.1.cell_ (i := 2) rfl
        have c3 := hC.1.cell_ (i := 3) rfl
        go_simp
        all_goals exact ⟨Below.refl _ _, rfl⟩
      case' n1 =>
        go_simp
        refine hK _ ?_
        clear hK K
      apply relWalk_rel rfl ?o2 (fun u2 K hK => ?n2)
      case o2 =>
        intro W hC hF
        have c0 := hC.1.cell_ (i := 0) rfl
        have c2 := hC.1.cell_ (i := 2) rfl
        have c3 := hC.1.cell_ (i := 3) rfl
        go_simp
        all_goals exact (HC1.out W hC.2.2.1 hC.2.1.lt).mono fun e w2 ⟨⟨v2, he, ho⟩, hb⟩ => ⟨v2, he, hb, ho⟩
      case' n2 =>
        go_simp
        refine hK _ ?_
        clear hK K
      apply relWalk_ex rfl ?o3 (fun K hK => ?n3)
      case o3 =>
        intro W hC hF
        have c0 := hC.1.cell_ (i := 0) rfl
        have c2 := hC.1.cell_ (i := 2) rfl
        have c3 := hC.1.cell_ (i := 3) rfl
        go_simp
        all_goals exact ⟨Below.refl _ _, rfl⟩
      case' n3 =>
        go_simp
        refine hK _ ?_
        clear hK K
      apply relWalk_ex rfl ?o4 (fun K hK => ?n4)
      case o4 =>
        intro W hC hF
        have c0 := hC.1.cell_ (i := 0) rfl
        have c2 := hC.1.cell_ (i := 2) rfl
        have c3 := hC.1.cell_ (i := 3) rfl
        go_simp
        all_goals exact ⟨Below.refl _ _, rfl⟩
      case' n4 =>
        go_simp
        refine hK _ ?_
        clear hK K
      apply relWalk_ex rfl ?o5 (fun K hK => ?n5)
      case o5 =>
        intro W hC hF
        have c0 := hC.1.cell_ (i := 0) rfl
        have c2 := hC.1.cell_ (i := 2) rfl
        have c3 := hC.1.cell_ (i := 3) rfl
        go_simp
        all_goals exact ⟨Below.refl _ _, rfl⟩
      case' n5 =>
        go_simp
        refine hK _ ?_
        clear hK K
      apply relWalk_rel rfl ?o6 (fun u6 K hK => ?n6)
      case o6 =>
        intro W hC hF
        have c0 := hC.1.cell_ (i := 0) rfl
        have c2 := hC.1.cell_ (i := 2) rfl
        have c3 := hC.1.cell_ (i := 3) rfl
        go_simp
        all_goals exact (HC3.out W hC.2.2.1 hC.2.1.lt).mono fun e w2 ⟨⟨v2, he, ho⟩, hb⟩ => ⟨v2, he, hb, ho⟩
      case' n6 =>
        go_simp
        refine hK _ ?_
        clear hK K
      apply relWalk_ex rfl ?o7 (fun K hK => ?n7)
      case o7 =>
        intro W hC hF
        have c0 := hC.1.cell_ (i := 0) rfl
        have c2 := hC.1.cell_ (i := 2) rfl
        have c3 := hC.1.cell_ (i := 3) rfl
        go_simp
        all_goals exact ⟨Below.refl _ _, rfl⟩
      case' n7 =>
        go_simp
        refine hK _ ?_
        clear hK K
      apply relWalk_ex rfl ?o8 (fun K hK => ?n8)
      case o8 =>
        intro W hC hF
        have c0 := hC.1.cell_ (i := 0) rfl
        have c2 := hC.1.cell_ (i := 2) rfl
        have c3 := hC.1.cell_ (i := 3) rfl
        go_simp
        all_goals exact ⟨Below.refl _ _, rfl⟩
      case' n8 =>
        go_simp
        refine hK _ ?_
        clear hK K
      apply relWalk_rel rfl ?o9 (fun u9 K hK => ?n9)
      case o9 =>
        intro W hC hF
        have c0 := hC.1.cell_ (i := 0) rfl
        have c2 := hC.1.cell_ (i := 2) rfl
        have c3 := hC.1.cell_ (i := 3) rfl
        go_simp
        all_goals exact (HC4.out W hC.2.2.1 hC.2.1.lt).mono fun e w2 ⟨⟨v2, he, ho⟩, hb⟩ => ⟨v2, he, hb, ho⟩
      case' n9 =>
        go_simp
        refine hK _ ?_
        clear hK K
      apply relWalk_end
      intro W hC hF hU
      obtain ⟨h9, h6, h2, -⟩ := hF
      obtain ⟨q2, d2, rfl⟩ := h2.form
      obtain ⟨q6, d6, rfl⟩ := h6.form
      obtain ⟨q9, d9, rfl⟩ := h9.form
      have h2 : W.ownsRow (w.heap.size + 2) 47 11 (.slice q2 s.rules.length d2) s.rules.length (flatC RuleP.cells s.rules) := h2
      have h6 : W.ownsRow (w.heap.size + 2) 58 2 (.slice q6 s.links.length d6) s.links.length (flatC LinkP.cells s.links) := h6
      have h9 : W.ownsRow (w.heap.size + 2) 9 1 (.slice q9 s.shifts.length d9) s.shifts.length (flatC encS s.shifts) := h9
      obtain ⟨b1, b2, hBW, hZ⟩ := hC
      have s0 := b2.cell_ (i := 0) rfl
      have s1 := b2.cell_ (i := 1) rfl
      have s2 := b2.cell_ (i := 2) rfl
      have s3 := b2.cell_ (i := 3) rfl
      have f0 := b2.frozen 0
      have f1 := b2.frozen 1
      have f2 := b2.frozen 2
      have f3 := b2.frozen 3
      have HA := Lib.hid (And.intro h2 (And.intro h6 (And.intro h9 (And.intro b2 (And.intro hBW hZ)))))
      clear h2 h6 h9 b1 b2 hBW hZ hU HC1 HC3 HC4 HS7
      go_wp2_with fail
      obtain ⟨h2, h6, h9, b2, hBW, hZ⟩ := HA.out
      have bF := (((b2.set_ 0 (.slice q2 s.rules.length d2)).set_ 1 (.slice p1 k c1)).set_ 2 (.slice q6 s.links.length d6)).set_ 3 (.slice q9 s.shifts.length d9)
      have zF : ∀ g, w.heap.size + 1 ≠ g → ZRow W g (w.heap.size + 1) cur → ZRow ((((W.setCell ⟨w.heap.size + 1, 0, none⟩ (.slice q2 s.rules.length d2)).setCell ⟨w.heap.size + 1, 1, none⟩ (.slice p1 k c1)).setCell ⟨w.heap.size + 1, 2, none⟩ (.slice q6 s.links.length d6)).setCell ⟨w.heap.size + 1, 3, none⟩ (.slice q9 s.shifts.length d9)) g (w.heap.size + 1) cur := fun g hne hz => (((hz.far hne).far hne).far hne).far hne
      refine bodyPost_ret (results_cell_row rfl _ _ (w.heap.size + 1) 27 #[.slice q2 s.rules.length d2, .slice p1 k c1, .slice q6 s.links.length d6, .slice q9 s.shifts.length d9] (0, 0) _ rfl bF Tryz.underlying27 rfl (by kernel_rfl)) rfl ⟨⟨_, _, _, _, rfl, cur.map (·.1), ?_⟩, (((hBW.setCell (by show w.heap.size ≤ w.heap.size + 1; omega) _).setCell (by show w.heap.size ≤ w.heap.size + 1; omega) _).setCell (by show w.heap.size ≤ w.heap.size + 1; omega) _).setCell (by show w.heap.size ≤ w.heap.size + 1; omega) _⟩
      have hlt : w.heap.size + 1 < w.heap.size + 2 := by omega
      refine ⟨rows_of_own (by decide) (fun x => (rule_cells x).1) (own_far (own_far (own_far (own_far h2 hlt _) hlt _) hlt _) hlt _), ?_, by rw [List.map_map, ← HE7.out.2]; rfl, ?_, rows_of_own (by decide) (fun x => (link_cells x).1) (own_far (own_far (own_far (own_far h6 hlt _) hlt _) hlt _) hlt _), rows_of_own (by decide) (fun x => rfl) (own_far (own_far (own_far (own_far h9 hlt _) hlt _) hlt _) hlt _)⟩
      · by_cases hk0 : 0 < cur.length
        · obtain ⟨g, rfl, hg, hz⟩ := hZ hk0
          have hne : w.heap.size + 1 ≠ g := by omega
          have := (zF g hne hz).at_ (c := c1)
          rw [HE7.out.1] at this
          exact RowsAt.map_ this (by rw [HE7.out.1])
        · have : cur = [] := List.length_eq_zero_iff.1 (by omega)
          have hk : k = 0 := by rw [← HE7.out.1, this]; rfl
          subst this hk
          exact ⟨p1, c1, rfl, fun h => absurd rfl h⟩
      · intro q hq
        obtain ⟨x, hx, rfl⟩ := List.mem_map.1 hq
        obtain ⟨i, hi, hxi⟩ := List.mem_iff_getElem.1 hx
        obtain ⟨g, rfl, hg, hz⟩ := hZ (by omega)
        have hne : w.heap.size + 1 ≠ g := by omega
        exact ((zF g hne hz).rows i x (by rw [List.getElem?_eq_getElem hi, hxi])).at_
end Go.Proofs.YtmcgbjjcpcgcfaaGreatDoor
