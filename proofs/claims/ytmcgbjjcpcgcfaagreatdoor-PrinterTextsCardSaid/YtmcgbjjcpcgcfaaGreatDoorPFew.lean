/-
  Few of the law of layer 14: what the call returns.
-/
import Derived.Test.YtmcgbjjcpcgcfaaGreatDoorPCopies
set_option linter.unusedVariables false
namespace Go.Proofs.YtmcgbjjcpcgcfaaGreatDoor
open Go.RowKit Go.Shelf

def StrSm (l : List UInt8) : Prop := l.length ≤ 100
structure SrcSm (s : SourceP) : Prop where
  n1 : s.rules.length ≤ 60
  n2 : s.zones.length ≤ 20
  n3 : s.links.length ≤ 60
  n4 : s.shifts.length ≤ 60
  rules : ∀ r ∈ s.rules, StrSm r.name ∧ StrSm r.lett
  zones : ∀ z ∈ s.zones, StrSm z.name ∧ z.eras.length ≤ 65 ∧ ∀ e ∈ z.eras, StrSm e.set ∧ StrSm e.fmt
  links : ∀ l ∈ s.links, StrSm l.target ∧ StrSm l.name
  shifts : ∀ x ∈ s.shifts, StrSm x

def FewR (s : SourceP) (e : Ending) : Prop := ∃ b, e = .returned (.bool b) ∧ (b = true → SrcSm s)
set_option maxRecDepth 100000 in
theorem long_any (s : ByteArray) (w : World) : Calls Tryz.prog 23 #[.string s] w fun e w' => e = .returned (.bool (decide (100 < s.size))) ∧ w' = w := by
  rcases (by omega : 100 < s.size ∨ ¬ 100 < s.size) with h | h
  · have hi : 100 < (s.size : Int) := by omega
    rw [decide_eq_true h]
    go_enter Tryz.func23, Tryz.ntmps23
    go_wp2_with fail
    go_ret
    exact ⟨rfl, rfl⟩
  · have hi : ¬ 100 < (s.size : Int) := by omega
    rw [decide_eq_false h]
    go_enter Tryz.func23, Tryz.ntmps23
    go_wp2_with fail
    go_ret
    exact ⟨rfl, rfl⟩
def FSt (w : World) (C : Array Value) (W : World) : Prop := Blk W w.heap.size 27 C ∧ Below w.heap.size w W
theorem FSt.below {w W W' : World} {C : Array Value} (h : FSt w C W) (hb : Below W.heap.size W W') : FSt w C W' := ⟨h.1.below hb h.1.lt, h.2.trans (hb.mono h.2.size)⟩
theorem all_snoc {α : Type} {p : α → Prop} {l : List α} {k : Nat} {x : α} (h : ∀ y ∈ l.take k, p y) (hx : l[k]? = some x) (hp : p x) : ∀ y ∈ l.take (k + 1), p y := fun y hy => by
  rw [List.take_add_one, hx, List.mem_append] at hy
  rcases hy with hy | hy
  · exact h y hy
  · simp at hy; subst hy; exact hp

set_option maxRecDepth 100000 in
set_option maxHeartbeats 2000000 in
theorem few_any (r z l h : Value) (zs : List (ZoneP × Value)) (s : SourceP) (w : World) (hs : SrcIs w w.heap.size r z l h zs s) :
    Calls Tryz.prog 8 #[.agg #[r, z, l, h]] w fun e w' => FewR s e ∧ Below w.heap.size w w' := by
  have hb0 : Below w.heap.size w (w.alloc (.cells #[r, z, l, h] 27)) := (Below.refl _ _).alloc (Nat.le_refl _) _
  have HL := Lib.hid (fun (q : ByteArray) W => long_any q W)
  obtain ⟨p1, c1, rfl, hr1⟩ := hs.1
  obtain ⟨p2, c2, rfl, hr2⟩ := hs.2.1
  obtain ⟨p3, c3, rfl, hr3⟩ := hs.2.2.2.2.1
  obtain ⟨p4, c4, rfl, hr4⟩ := hs.2.2.2.2.2
  have HZ := Lib.hid hs.2.2.2.1
  have HM := Lib.hid hs.2.2.1
  have HR1 := Lib.hid hr1
  have HR2 := Lib.hid hr2
  have HR3 := Lib.hid hr3
  have HR4 := Lib.hid hr4
  have HB := Lib.hid (show FSt w #[.slice p1 s.rules.length c1, .slice p2 zs.length c2, .slice p3 s.links.length c3, .slice p4 s.shifts.length c4] (w.alloc (.cells #[.slice p1 s.rules.length c1, .slice p2 zs.length c2, .slice p3 s.links.length c3, .slice p4 s.shifts.length c4] 27)) from ⟨Blk.new' _ _ _ rfl, hb0⟩)
  clear hs hr1 hr2 hr3 hr4 hb0
  obtain ⟨rs, hrs⟩ : ∃ rs, s.rules = rs := ⟨_, rfl⟩
  obtain ⟨ls, hls⟩ : ∃ ls, s.links = ls := ⟨_, rfl⟩
  obtain ⟨ss, hss⟩ : ∃ ss, s.shifts = ss := ⟨_, rfl⟩
  have HFIN := Lib.hid (show rs.length ≤ 60 → zs.length ≤ 20 → ls.length ≤ 60 → ss.length ≤ 60 → (∀ y ∈ rs, StrSm y.name ∧ StrSm y.lett) → (∀ q ∈ zs, StrSm q.1.name ∧ q.1.eras.length ≤ 65 ∧ ∀ e ∈ q.1.eras, StrSm e.set ∧ StrSm e.fmt) → (∀ y ∈ ls, StrSm y.target ∧ StrSm y.name) → (∀ y ∈ ss, StrSm y) → SrcSm s from fun a1 a2 a3 a4 a5 a6 a7 a8 =>
    ⟨by rw [hrs]; exact a1, by rw [← HM.out, List.length_map]; exact a2, by rw [hls]; exact a3, by rw [hss]; exact a4, by rw [hrs]; exact a5, fun q hq => by rw [← HM.out] at hq; obtain ⟨y, hy, rfl⟩ := List.mem_map.1 hq; exact a6 y hy, by rw [hls]; exact a7, by rw [hss]; exact a8⟩)
  rw [hrs] at HR1 HB ⊢
  rw [hls] at HR3 HB ⊢
  rw [hss] at HR4 HB ⊢
  clear hrs hls hss HM
  by_cases m1 : 60 < rs.length
  · have g1 : 60 < (rs.length : Int) := by omega
    go_enter Tryz.func8, Tryz.ntmps8
    go_wp2_with fail
    go_ret
    exact ⟨⟨_, rfl, fun h => Bool.noConfusion h⟩, HB.out.2⟩
  have g1 : ¬ 60 < (rs.length : Int) := by omega
  by_cases m2 : 20 < zs.length
  · have g2 : 20 < (zs.length : Int) := by omega
    go_enter Tryz.func8, Tryz.ntmps8
    go_wp2_with fail
    go_ret
    exact ⟨⟨_, rfl, fun h => Bool.noConfusion h⟩, HB.out.2⟩
  have g2 : ¬ 20 < (zs.length : Int) := by omega
  by_cases m3 : 60 < ls.length
  · have g3 : 60 < (ls.length : Int) := by omega
    go_enter Tryz.func8, Tryz.ntmps8
    go_wp2_with fail
    go_ret
    exact ⟨⟨_, rfl, fun h => Bool.noConfusion h⟩, HB.out.2⟩
  have g3 : ¬ 60 < (ls.length : Int) := by omega
  by_cases m4 : 60 < ss.length
  · have g4 : 60 < (ss.length : Int) := by omega
    go_enter Tryz.func8, Tryz.ntmps8
    go_wp2_with fail
    go_ret
    exact ⟨⟨_, rfl, fun h => Bool.noConfusion h⟩, HB.out.2⟩
  have g4 : ¬ 60 < (ss.length : Int) := by omega
  have HF2 := Lib.hid (HFIN.out (by omega) (by omega) (by omega) (by omega))
  clear HFIN
  go_enter Tryz.func8, Tryz.ntmps8
  go_wp2_with fail
  clear g1 g2 g3 g4
  generalize hSC : (#[Value.slice p1 rs.length c1, Value.slice p2 zs.length c2, Value.slice p3 ls.length c3, Value.slice p4 ss.length c4] : Array Value) = SC at HB
  have HSC := Lib.hid hSC.symm
  clear hSC
  go_loopw [3] (fun i wr => ∃ k : Nat, k ≤ rs.length ∧ i = .int .i64 (k : Int) ∧ Hid (∀ y ∈ rs.take k, StrSm y.name ∧ StrSm y.lett) ∧ Hid (FSt w SC wr)) (fun i _ => rs.length - (intOf i).toNat)
  case atStart => exact ⟨0, Nat.zero_le _, rfl, Lib.hid (by simp), HB⟩
  case round =>
    clear HB
    obtain ⟨k, hk, rfl, HA, HB⟩ := hrel
    have a0 : wr.cell? ⟨w.heap.size, 0, none⟩ = some (.slice p1 rs.length c1) := HB.out.1.cell_ (by rw [HSC.out]; rfl)
    by_cases hlt : k < rs.length
    · obtain ⟨x, hx⟩ : ∃ x, rs[k]? = some x := ⟨_, List.getElem?_eq_getElem hlt⟩
      obtain ⟨b, o, rfl, hbn, hrow⟩ := HR1.out (by intro h; rw [h] at hlt; simp at hlt)
      have hrw : ∀ j v, x.cells.toList[j]? = some v → wr.cell? ⟨b, o + k * 11 + j, none⟩ = some v := fun j v hv => (HB.out.2.cell (p := ⟨b, o + k * 11 + j, none⟩) hbn).trans (hrow k x hx j v hv)
      have q0 : wr.cell? ⟨b, o + k * 11, none⟩ = some (.string ⟨x.name.toArray⟩) := hrw 0 _ rfl
      have q10 : wr.cell? ⟨b, o + k * 11 + 10, none⟩ = some (.string ⟨x.lett.toArray⟩) := hrw 10 _ rfl
      have hd : decide ((k : Int) < (rs.length : Int)) = true := by simp; omega
      have k0 : (0 : Int) ≤ (k : Int) := by omega
      have kl : (k : Int) < (rs.length : Int) := by omega
      have HS := Lib.hid (show decide (100 < (⟨x.name.toArray⟩ : ByteArray).size) = false → decide (100 < (⟨x.lett.toArray⟩ : ByteArray).size) = false → ∀ y ∈ rs.take (k + 1), StrSm y.name ∧ StrSm y.lett from fun e1 e2 => all_snoc HA.out hx ⟨Nat.not_lt.1 (of_decide_eq_false e1), Nat.not_lt.1 (of_decide_eq_false e2)⟩)
      have HL1 := Lib.hid (fun W => HL.out ⟨x.name.toArray⟩ W)
      have HL2 := Lib.hid (fun W => HL.out ⟨x.lett.toArray⟩ W)
      obtain ⟨s1, e1⟩ : ∃ q : ByteArray, (⟨x.name.toArray⟩ : ByteArray) = q := ⟨_, rfl⟩
      obtain ⟨s2, e2⟩ : ∃ q : ByteArray, (⟨x.lett.toArray⟩ : ByteArray) = q := ⟨_, rfl⟩
      rw [e1, e2] at HS
      rw [e1] at q0 HL1
      rw [e2] at q10 HL2
      clear e1 e2 hrw hrow hx HA
      generalize decide (100 < s1.size) = r1 at *
      generalize decide (100 < s2.size) = r2 at *
      cases r1 with
      | true =>
        go_wp2_with fail
        refine (HL1.out _).mono ?_
        rintro e w1 ⟨rfl, rfl⟩
        go_wp2_with fail
        go_ret
        exact ⟨⟨_, rfl, fun h => Bool.noConfusion h⟩, HB.out.2⟩
      | false =>
        cases r2 with
        | true =>
          go_wp2_with fail
          refine (HL1.out _).mono ?_
          rintro e w1 ⟨rfl, rfl⟩
          go_wp2_with fail
          refine (HL2.out _).mono ?_
          rintro e w1 ⟨rfl, rfl⟩
          go_wp2_with fail
          go_ret
          exact ⟨⟨_, rfl, fun h => Bool.noConfusion h⟩, HB.out.2⟩
        | false =>
          go_wp2_with fail
          refine (HL1.out _).mono ?_
          rintro e w1 ⟨rfl, rfl⟩
          go_wp2_with fail
          refine (HL2.out _).mono ?_
          rintro e w1 ⟨rfl, rfl⟩
          go_wp2_with fail
          go_roundw
          case rel => exact ⟨k + 1, by omega, by go_num, Lib.hid (by first | exact HS.out rfl rfl | exact HS.out trivial trivial), HB⟩
          case measure => simp [intOf]; omega
    · obtain rfl : k = rs.length := by omega
      have hd : decide ((rs.length : Int) < (rs.length : Int)) = false := by simp
      have HF3 := Lib.hid (HF2.out (by have := HA.out; rwa [List.take_length] at this))
      clear HA HF2 HR1 hlt hk
      go_wp2_with fail
      go_loopw [4, 5, 6] (fun i _ _ wr => ∃ k : Nat, k ≤ zs.length ∧ i = .int .i64 (k : Int) ∧ Hid (∀ y ∈ zs.take k, StrSm y.1.name ∧ y.1.eras.length ≤ 65 ∧ ∀ e ∈ y.1.eras, StrSm e.set ∧ StrSm e.fmt) ∧ Hid (FSt w SC wr)) (fun i _ _ _ => zs.length - (intOf i).toNat)
      case atStart => exact ⟨0, Nat.zero_le _, rfl, Lib.hid (by simp), HB⟩
      case round =>
        clear HB
        obtain ⟨k, hk, rfl, HA, HB⟩ := hrel
        have a0 : wr.cell? ⟨w.heap.size, 1, none⟩ = some (.slice p2 zs.length c2) := HB.out.1.cell_ (by rw [HSC.out]; rfl)
        by_cases hlt : k < zs.length
        · obtain ⟨x, hx⟩ : ∃ x, zs[k]? = some x := ⟨_, List.getElem?_eq_getElem hlt⟩
          obtain ⟨b, o, rfl, hbn, hrow⟩ := HR2.out (by intro h; rw [h] at hlt; simp at hlt)
          have hd : decide ((k : Int) < (zs.length : Int)) = true := by simp; omega
          have k0 : (0 : Int) ≤ (k : Int) := by omega
          have kl : (k : Int) < (zs.length : Int) := by omega
          have hzq := (HZ.out x (List.mem_of_getElem? hx))
          obtain ⟨pe, ce, hpe, her⟩ := hzq
          have hCx : encZ x = #[.string ⟨x.1.name.toArray⟩, .slice pe x.1.eras.length ce] := by unfold encZ; rw [hpe]
          have HC := Lib.hid (show wr.rangeAt b (o + k * 2) (#[.string ⟨x.1.name.toArray⟩, .slice pe x.1.eras.length ce] : Array Value).toList from fun j v hv => (HB.out.2.cell (p := ⟨b, o + k * 2 + j, none⟩) hbn).trans (hrow k x hx j v (by rw [hCx]; exact hv)))
          have HER := Lib.hid her
          have HS := Lib.hid (show decide (100 < (⟨x.1.name.toArray⟩ : ByteArray).size) = false → ¬ 65 < x.1.eras.length → (∀ e ∈ x.1.eras, StrSm e.set ∧ StrSm e.fmt) → ∀ q ∈ zs.take (k + 1), StrSm q.1.name ∧ q.1.eras.length ≤ 65 ∧ ∀ e ∈ q.1.eras, StrSm e.set ∧ StrSm e.fmt from fun e1 e2 e3 => all_snoc HA.out hx ⟨Nat.not_lt.1 (of_decide_eq_false e1), Nat.not_lt.1 e2, e3⟩)
          have HL1 := Lib.hid (fun W => HL.out ⟨x.1.name.toArray⟩ W)
          obtain ⟨s1, e1⟩ : ∃ q : ByteArray, (⟨x.1.name.toArray⟩ : ByteArray) = q := ⟨_, rfl⟩
          rw [e1] at HC HL1 HS
          have hTi : (Tryz.prog.info? 50).map (·.size) = some 2 := by kernel_rfl
          have HW := Lib.hid (show Blk (wr.alloc (.cells #[.string s1, .slice pe x.1.eras.length ce] 50)) wr.heap.size 50 #[.string s1, .slice pe x.1.eras.length ce] ∧ FSt w SC (wr.alloc (.cells #[.string s1, .slice pe x.1.eras.length ce] 50)) from ⟨Blk.new' _ _ _ rfl, HB.out.below ((Below.refl _ _).alloc (Nat.le_refl _) _)⟩)
          generalize x.1.eras = es at *
          clear e1 hrow hx HA her hpe hCx
          go_upto_region 12 with (first | (refine wpList_load_arr rfl 50 (.tmp 64) rfl b (o + k * 2) rfl #[.string s1, .slice pe es.length ce] _ HC.out Tryz.underlying50 rfl hTi ?_) | fail)
          generalize wr.alloc (.cells #[.string s1, .slice pe es.length ce] 50) = wz at *
          generalize wr.heap.size = gz at *
          have z0 : wz.cell? ⟨gz, 0, none⟩ = some (.string s1) := HW.out.1.cell_ rfl
          have z1 : wz.cell? ⟨gz, 1, none⟩ = some (.slice pe es.length ce) := HW.out.1.cell_ rfl
          clear HB HC a0
          generalize decide (100 < s1.size) = r1 at *
          cases r1 with
          | true =>
            go_wp2_with fail
            refine (HL1.out _).mono ?_
            rintro e w1 ⟨rfl, rfl⟩
            go_wp2_with fail
            go_ret
            exact ⟨⟨_, rfl, fun h => Bool.noConfusion h⟩, HW.out.2.2⟩
          | false =>
            by_cases h65 : 65 < es.length
            · have g5 : 65 < (es.length : Int) := by omega
              go_wp2_with fail
              refine (HL1.out _).mono ?_
              rintro e w1 ⟨rfl, rfl⟩
              go_wp2_with fail
              go_ret
              exact ⟨⟨_, rfl, fun h => Bool.noConfusion h⟩, HW.out.2.2⟩
            have g5 : ¬ 65 < (es.length : Int) := by omega
            have HS2 := Lib.hid (show (∀ e ∈ es, StrSm e.set ∧ StrSm e.fmt) → ∀ q ∈ zs.take (k + 1), StrSm q.1.name ∧ q.1.eras.length ≤ 65 ∧ ∀ e ∈ q.1.eras, StrSm e.set ∧ StrSm e.fmt from HS.out rfl h65)
            clear HS
            go_wp2_with fail
            refine (HL1.out _).mono ?_
            rintro e w1 ⟨rfl, rfl⟩
            go_wp2_with fail
            clear g5 z0 HL1
            go_loopw [6] (fun i wq => ∃ m : Nat, m ≤ es.length ∧ i = .int .i64 (m : Int) ∧ Hid (∀ y ∈ es.take m, StrSm y.set ∧ StrSm y.fmt) ∧ wq = w1) (fun i _ => es.length - (intOf i).toNat)
            case atStart => exact ⟨0, Nat.zero_le _, rfl, Lib.hid (by simp), rfl⟩
            case round =>
              obtain ⟨m, hm, rfl, HA, hwq⟩ := hrel
              subst hwq
              by_cases hmt : m < es.length
              · obtain ⟨x, hx⟩ : ∃ x, es[m]? = some x := ⟨_, List.getElem?_eq_getElem hmt⟩
                obtain ⟨b2, o2, rfl, hbn2, hrow⟩ := HER.out (by intro h; rw [h] at hmt; simp at hmt)
                have hd2 : decide ((m : Int) < (es.length : Int)) = true := by simp; omega
                have m0 : (0 : Int) ≤ (m : Int) := by omega
                have ml : (m : Int) < (es.length : Int) := by omega
                have hrw : ∀ j v, x.cells.toList[j]? = some v → wr.cell? ⟨b2, o2 + m * 13 + j, none⟩ = some v := fun j v hv => (HW.out.2.2.cell (p := ⟨b2, o2 + m * 13 + j, none⟩) hbn2).trans (hrow m x hx j v hv)
                have q3 : wr.cell? ⟨b2, o2 + m * 13 + 3, none⟩ = some (.string ⟨x.set.toArray⟩) := hrw 3 _ rfl
                have q4 : wr.cell? ⟨b2, o2 + m * 13 + 4, none⟩ = some (.string ⟨x.fmt.toArray⟩) := hrw 4 _ rfl
                have HS := Lib.hid (show decide (100 < (⟨x.set.toArray⟩ : ByteArray).size) = false → decide (100 < (⟨x.fmt.toArray⟩ : ByteArray).size) = false → ∀ y ∈ es.take (m + 1), StrSm y.set ∧ StrSm y.fmt from fun e1 e2 => all_snoc HA.out hx ⟨Nat.not_lt.1 (of_decide_eq_false e1), Nat.not_lt.1 (of_decide_eq_false e2)⟩)
                have HL1 := Lib.hid (fun W => HL.out ⟨x.set.toArray⟩ W)
                have HL2 := Lib.hid (fun W => HL.out ⟨x.fmt.toArray⟩ W)
                obtain ⟨s1, e1⟩ : ∃ q : ByteArray, (⟨x.set.toArray⟩ : ByteArray) = q := ⟨_, rfl⟩
                obtain ⟨s2, e2⟩ : ∃ q : ByteArray, (⟨x.fmt.toArray⟩ : ByteArray) = q := ⟨_, rfl⟩
                rw [e1, e2] at HS
                rw [e1] at q3 HL1
                rw [e2] at q4 HL2
                clear e1 e2 hrw hrow hx HA
                generalize decide (100 < s1.size) = r1 at *
                generalize decide (100 < s2.size) = r2 at *
                cases r1 with
                | true =>
                  go_wp2_with fail
                  refine (HL1.out _).mono ?_
                  rintro e w1 ⟨rfl, rfl⟩
                  go_wp2_with fail
                  go_ret
                  exact ⟨⟨_, rfl, fun h => Bool.noConfusion h⟩, HW.out.2.2⟩
                | false =>
                  cases r2 with
                  | true =>
                    go_wp2_with fail
                    refine (HL1.out _).mono ?_
                    rintro e w1 ⟨rfl, rfl⟩
                    go_wp2_with fail
                    refine (HL2.out _).mono ?_
                    rintro e w1 ⟨rfl, rfl⟩
                    go_wp2_with fail
                    go_ret
                    exact ⟨⟨_, rfl, fun h => Bool.noConfusion h⟩, HW.out.2.2⟩
                  | false =>
                    go_wp2_with fail
                    refine (HL1.out _).mono ?_
                    rintro e w1 ⟨rfl, rfl⟩
                    go_wp2_with fail
                    refine (HL2.out _).mono ?_
                    rintro e w1 ⟨rfl, rfl⟩
                    go_wp2_with fail
                    go_roundw
                    case rel => exact ⟨m + 1, by omega, by go_num, Lib.hid (by first | exact HS.out rfl rfl | exact HS.out trivial trivial), by first | exact trivial | rfl⟩
                    case measure => simp [intOf]; omega
              · obtain rfl : m = es.length := by omega
                have hd2 : decide ((es.length : Int) < (es.length : Int)) = false := by simp
                have HS3 := Lib.hid (HS2.out (by have := HA.out; rwa [List.take_length] at this))
                clear HA HS2 HER hmt hm
                go_wp2_with fail
                go_roundw
                case rel => exact ⟨k + 1, by omega, by go_num, HS3, Lib.hid HW.out.2⟩
                case measure => simp [intOf]; omega
        · obtain rfl : k = zs.length := by omega
          have hd : decide ((zs.length : Int) < (zs.length : Int)) = false := by simp
          have HF4 := Lib.hid (HF3.out (by have := HA.out; rwa [List.take_length] at this))
          clear HA HF3 HR2 hlt hk
          go_wp2_with fail
          go_loopw [7] (fun i wr => ∃ k : Nat, k ≤ ls.length ∧ i = .int .i64 (k : Int) ∧ Hid (∀ y ∈ ls.take k, StrSm y.target ∧ StrSm y.name) ∧ Hid (FSt w SC wr)) (fun i _ => ls.length - (intOf i).toNat)
          case atStart => exact ⟨0, Nat.zero_le _, rfl, Lib.hid (by simp), HB⟩
          case round =>
            clear HB
            obtain ⟨k, hk, rfl, HA, HB⟩ := hrel
            have a0 : wr.cell? ⟨w.heap.size, 2, none⟩ = some (.slice p3 ls.length c3) := HB.out.1.cell_ (by rw [HSC.out]; rfl)
            by_cases hlt : k < ls.length
            · obtain ⟨x, hx⟩ : ∃ x, ls[k]? = some x := ⟨_, List.getElem?_eq_getElem hlt⟩
              obtain ⟨b, o, rfl, hbn, hrow⟩ := HR3.out (by intro h; rw [h] at hlt; simp at hlt)
              have hd : decide ((k : Int) < (ls.length : Int)) = true := by simp; omega
              have k0 : (0 : Int) ≤ (k : Int) := by omega
              have kl : (k : Int) < (ls.length : Int) := by omega
              have hrw : ∀ j v, x.cells.toList[j]? = some v → wr.cell? ⟨b, o + k * 2 + j, none⟩ = some v := fun j v hv => (HB.out.2.cell (p := ⟨b, o + k * 2 + j, none⟩) hbn).trans (hrow k x hx j v hv)
              have q0 : wr.cell? ⟨b, o + k * 2, none⟩ = some (.string ⟨x.target.toArray⟩) := hrw 0 _ rfl
              have q1 : wr.cell? ⟨b, o + k * 2 + 1, none⟩ = some (.string ⟨x.name.toArray⟩) := hrw 1 _ rfl
              have HS := Lib.hid (show decide (100 < (⟨x.target.toArray⟩ : ByteArray).size) = false → decide (100 < (⟨x.name.toArray⟩ : ByteArray).size) = false → ∀ y ∈ ls.take (k + 1), StrSm y.target ∧ StrSm y.name from fun e1 e2 => all_snoc HA.out hx ⟨Nat.not_lt.1 (of_decide_eq_false e1), Nat.not_lt.1 (of_decide_eq_false e2)⟩)
              have HL1 := Lib.hid (fun W => HL.out ⟨x.target.toArray⟩ W)
              have HL2 := Lib.hid (fun W => HL.out ⟨x.name.toArray⟩ W)
              obtain ⟨s1, e1⟩ : ∃ q : ByteArray, (⟨x.target.toArray⟩ : ByteArray) = q := ⟨_, rfl⟩
              obtain ⟨s2, e2⟩ : ∃ q : ByteArray, (⟨x.name.toArray⟩ : ByteArray) = q := ⟨_, rfl⟩
              rw [e1, e2] at HS
              rw [e1] at q0 HL1
              rw [e2] at q1 HL2
              clear e1 e2 hrw hrow hx HA
              generalize decide (100 < s1.size) = r1 at *
              generalize decide (100 < s2.size) = r2 at *
              cases r1 with
              | true =>
                go_wp2_with fail
                refine (HL1.out _).mono ?_
                rintro e w1 ⟨rfl, rfl⟩
                go_wp2_with fail
                go_ret
                exact ⟨⟨_, rfl, fun h => Bool.noConfusion h⟩, HB.out.2⟩
              | false =>
                cases r2 with
                | true =>
                  go_wp2_with fail
                  refine (HL1.out _).mono ?_
                  rintro e w1 ⟨rfl, rfl⟩
                  go_wp2_with fail
                  refine (HL2.out _).mono ?_
                  rintro e w1 ⟨rfl, rfl⟩
                  go_wp2_with fail
                  go_ret
                  exact ⟨⟨_, rfl, fun h => Bool.noConfusion h⟩, HB.out.2⟩
                | false =>
                  go_wp2_with fail
                  refine (HL1.out _).mono ?_
                  rintro e w1 ⟨rfl, rfl⟩
                  go_wp2_with fail
                  refine (HL2.out _).mono ?_
                  rintro e w1 ⟨rfl, rfl⟩
                  go_wp2_with fail
                  go_roundw
                  case rel => exact ⟨k + 1, by omega, by go_num, Lib.hid (by first | exact HS.out rfl rfl | exact HS.out trivial trivial), HB⟩
                  case measure => simp [intOf]; omega
            · obtain rfl : k = ls.length := by omega
              have hd : decide ((ls.length : Int) < (ls.length : Int)) = false := by simp
              have HF5 := Lib.hid (HF4.out (by have := HA.out; rwa [List.take_length] at this))
              clear HA HF4 HR3 hlt hk
              go_wp2_with fail
              go_loopw [8] (fun i wr => ∃ k : Nat, k ≤ ss.length ∧ i = .int .i64 (k : Int) ∧ Hid (∀ y ∈ ss.take k, StrSm y) ∧ Hid (FSt w SC wr)) (fun i _ => ss.length - (intOf i).toNat)
              case atStart => exact ⟨0, Nat.zero_le _, rfl, Lib.hid (by simp), HB⟩
              case round =>
                clear HB
                obtain ⟨k, hk, rfl, HA, HB⟩ := hrel
                have a0 : wr.cell? ⟨w.heap.size, 3, none⟩ = some (.slice p4 ss.length c4) := HB.out.1.cell_ (by rw [HSC.out]; rfl)
                by_cases hlt : k < ss.length
                · obtain ⟨x, hx⟩ : ∃ x, ss[k]? = some x := ⟨_, List.getElem?_eq_getElem hlt⟩
                  obtain ⟨b, o, rfl, hbn, hrow⟩ := HR4.out (by intro h; rw [h] at hlt; simp at hlt)
                  have hd : decide ((k : Int) < (ss.length : Int)) = true := by simp; omega
                  have k0 : (0 : Int) ≤ (k : Int) := by omega
                  have kl : (k : Int) < (ss.length : Int) := by omega
                  have q0 : wr.cell? ⟨b, o + k, none⟩ = some (.string ⟨x.toArray⟩) := by
                    have := (HB.out.2.cell (p := ⟨b, o + k * 1 + 0, none⟩) hbn).trans (hrow k x hx 0 _ rfl)
                    simpa using this
                  have HS := Lib.hid (show decide (100 < (⟨x.toArray⟩ : ByteArray).size) = false → ∀ y ∈ ss.take (k + 1), StrSm y from fun e1 => all_snoc HA.out hx (Nat.not_lt.1 (of_decide_eq_false e1)))
                  have HL1 := Lib.hid (fun W => HL.out ⟨x.toArray⟩ W)
                  obtain ⟨s1, e1⟩ : ∃ q : ByteArray, (⟨x.toArray⟩ : ByteArray) = q := ⟨_, rfl⟩
                  rw [e1] at q0 HL1 HS
                  clear e1 hrow hx HA
                  generalize decide (100 < s1.size) = r1 at *
                  cases r1 with
                  | true =>
                    go_wp2_with fail
                    refine (HL1.out _).mono ?_
                    rintro e w1 ⟨rfl, rfl⟩
                    go_wp2_with fail
                    go_ret
                    exact ⟨⟨_, rfl, fun h => Bool.noConfusion h⟩, HB.out.2⟩
                  | false =>
                    go_wp2_with fail
                    refine (HL1.out _).mono ?_
                    rintro e w1 ⟨rfl, rfl⟩
                    go_wp2_with fail
                    go_roundw
                    case rel => exact ⟨k + 1, by omega, by go_num, Lib.hid (by first | exact HS.out rfl | exact HS.out trivial), HB⟩
                    case measure => simp [intOf]; omega
                · obtain rfl : k = ss.length := by omega
                  have hd : decide ((ss.length : Int) < (ss.length : Int)) = false := by simp
                  have HF6 := Lib.hid (HF5.out (by have := HA.out; rwa [List.take_length] at this))
                  clear HA HF5 HR4 hlt hk
                  go_wp2_with fail
                  go_ret
                  exact ⟨⟨_, rfl, fun _ => HF6.out⟩, HB.out.2⟩
end Go.Proofs.YtmcgbjjcpcgcfaaGreatDoor
