/-
  The reference's Print of layer 14: what the call returns.
-/
import Derived.Test.YtmcgbjjcpcgcfaaGreatDoorRefText
import Derived.Test.YtmcgbjjcpcgcfaaGreatDoorPCopies
set_option linter.unusedVariables false
set_option linter.unusedSimpArgs false
namespace Go.Proofs.YtmcgbjjcpcgcfaaGreatDoor
open Go.RowKit Go.Shelf

/-- the bytes that the reference has written: a slice that owns them -/
def Own (w0 : World) (v : Value) (outs : List (List UInt8)) (W : World) : Prop :=
  W.ownsRow w0.heap.size 5 1 v (linesT outs).length (Lib.byteCells (linesT outs)) ∧ LenLe 20000 outs ∧ Below w0.heap.size w0 W
theorem Own.kept {w0 W W' : World} {v : Value} {outs : List (List UInt8)} (h : Own w0 v outs W) (hb : Below W.heap.size W W') : Own w0 v outs W' :=
  ⟨own_kept h.1 hb, h.2.1, h.2.2.trans (hb.mono h.2.2.size)⟩
theorem Own.len {w0 W : World} {v : Value} {outs : List (List UInt8)} {n : Nat} (h : Own w0 v outs W) (hn : outs.length ≤ n) (h6 : n ≤ 10000) : (linesT outs).length ≤ 210000000 := by
  have h1 := lines_len 20000 outs h.2.1
  have h2 : outs.length * (20000 + 1) ≤ 10000 * 20001 := Nat.mul_le_mul (by omega) (Nat.le_refl _)
  omega
/-- the value that the reference's zone returns, by the answer of the plain one -/
def zAns (y : List UInt8 × Int) : Value := if y.2 = 0 then .tuple #[.string ⟨(y.1 ++ [10]).toArray⟩, .bool true] else .tuple #[.string ⟨#[]⟩, .bool false]
theorem zAns_yes (l : List UInt8) : zAns (l, 0) = .tuple #[.string ⟨(l ++ [10]).toArray⟩, .bool true] := by unfold zAns; rw [if_pos rfl]
theorem zAns_no (l : List UInt8) {y : Int} (h : ¬ y = 0) : zAns (l, y) = .tuple #[.string ⟨#[]⟩, .bool false] := by unfold zAns; rw [if_neg h]
theorem zAns_of (z : ZoneP) : (.tuple #[.string ⟨(zoneAns z).1.toArray⟩, .bool (zoneAns z).2] : Value) = zAns (zonePrintR z) := by
  unfold zoneAns zonePrintR
  by_cases h : zoneOk z = true
  · rw [if_pos h, if_pos h]; rfl
  · rw [if_neg h, if_neg h]; rfl
theorem info_byte : ∃ i, Tryz.prog.info? 5 = some i ∧ i.zero = some (.int .u8 0) ∧ i.size = 1 ∧ i.bytes = 1 := info_parts Tryz.info_u8

set_option maxRecDepth 100000 in
set_option maxHeartbeats 2000000 in
theorem r14print_any (r z l h : Value) (zs : List (ZoneP × Value)) (s : SourceP) (w : World) (hs : SrcIs w w.heap.size r z l h zs s) (hz : SrcSz s) (hln : s.zones.length ≤ 1048576) :
    Calls Tryz.prog 12 #[.agg #[r, z, l, h]] w fun e w' => e = .returned (.tuple #[.string ⟨(srcPrintR s).1.toArray⟩, .int .i64 (srcPrintR s).2]) ∧ Below w.heap.size w w' := by
  obtain ⟨i0, hi, hz0, hz1, hz2⟩ := info_byte
  have hb0 : Below w.heap.size w (w.alloc (.cells #[r, z, l, h] 27)) := (Below.refl _ _).alloc (Nat.le_refl _) _
  have HM := Lib.hid (r14many_any r z l h zs s _ (hs.now hb0) hln)
  obtain ⟨p1, c1, rfl, hr1⟩ := hs.1
  obtain ⟨p2, c2, rfl, hr2⟩ := hs.2.1
  obtain ⟨p3, c3, rfl, hr3⟩ := hs.2.2.2.2.1
  obtain ⟨p4, c4, rfl, hr4⟩ := hs.2.2.2.2.2
  have hv := hs.2.2.2.1
  have em : zs.map (·.1) = s.zones := hs.2.2.1
  have lz : zs.length = s.zones.length := by rw [← em]; simp
  obtain ⟨mb, hmb⟩ : ∃ b, manyB s = b := ⟨_, rfl⟩
  obtain ⟨R, hR⟩ : ∃ R, srcPrintR s = R := ⟨_, rfl⟩
  rw [hmb] at HM
  rw [hR]
  cases mb with
  | true =>
    have HF := Lib.hid (show R = ([], 7) from by rw [← hR]; unfold srcPrintR; rw [hmb]; rfl)
    have HB0 := Lib.hid hb0
    clear hs hr1 hr2 hr3 hr4 hv hb0 hR hz em lz hmb
    go_enter Tryz.func12, Tryz.ntmps12
    go_wp2_with fail
    refine HM.out.mono ?_
    rintro e w1 ⟨rfl, hb⟩
    have HB1 := Lib.hid (HB0.out.trans (hb.mono HB0.out.size))
    clear hb
    go_wp2_with fail
    go_ret2
    exact ⟨by rw [HF.out]; rfl, HB1.out⟩
  | false =>
    have hmb2 := hmb
    simp only [manyB, Bool.or_eq_false_iff, decide_eq_false_iff_not, List.any_eq_false] at hmb2
    obtain ⟨⟨⟨⟨n1, n2⟩, n3⟩, n4⟩, n5⟩ := hmb2
    have h60 : ∀ z ∈ s.zones, z.eras.length ≤ 60 := fun z hz => by have := n5 z hz; simp at this; omega
    clear n5
    have zin : ∀ q ∈ zs, q.1 ∈ s.zones := fun q hq => by rw [← em]; exact List.mem_map.2 ⟨q, hq, rfl⟩
    have hnot : srcOk s = false → R = ([], 2) := fun h => by rw [← hR]; unfold srcPrintR; rw [hmb, h]; rfl
    have HF_r := Lib.hid (show ∀ x ∈ s.rules, (rulePrintR x).2 ≠ 0 → R = ([], 2) from fun x hx h => hnot (by
      unfold srcOk
      rw [show s.rules.all ruleOk = false from List.all_eq_false.2 ⟨x, hx, fun ho => h (by unfold rulePrintR; rw [if_pos ho])⟩]
      rfl))
    have HF_z := Lib.hid (show ∀ x ∈ zs, (zonePrintR x.1).2 ≠ 0 → R = ([], 2) from fun x hx h => hnot (by
      unfold srcOk
      rw [show s.zones.all zoneOk = false from List.all_eq_false.2 ⟨x.1, zin x hx, fun ho => h (by unfold zonePrintR; rw [if_pos ho])⟩, Bool.and_false]
      rfl))
    have HF_l := Lib.hid (show ∀ x ∈ s.links, (linkPrintR x).2 ≠ 0 → R = ([], 2) from fun x hx h => hnot (by
      unfold srcOk
      rw [show s.links.all linkOk = false from List.all_eq_false.2 ⟨x, hx, fun ho => h (by unfold linkPrintR; rw [if_pos ho])⟩, Bool.and_false]
      rfl))
    have HF_s := Lib.hid (show ∀ x ∈ s.shifts, (shiftPrintR x).2 ≠ 0 → R = ([], 2) from fun x hx h => hnot (by
      unfold srcOk
      rw [show s.shifts.all setB = false from List.all_eq_false.2 ⟨x, hx, fun ho => h (by unfold shiftPrintR; rw [if_pos ho])⟩, Bool.and_false]))
    have HL_r := Lib.hid (show ∀ x ∈ s.rules, (rulePrintR x).2 = 0 → (rulePrintR x).1.length ≤ 20000 from fun x hx h => by
      unfold rulePrintR at h ⊢
      by_cases ho : ruleOk x = true
      · rw [if_pos ho]; exact rule_len ho
      · rw [if_neg ho]; exact Nat.zero_le _)
    have HL_z := Lib.hid (show ∀ x ∈ zs, (zonePrintR x.1).2 = 0 → (zonePrintR x.1).1.length ≤ 20000 from fun x hx h => by
      unfold zonePrintR at h ⊢
      by_cases ho : zoneOk x.1 = true
      · rw [if_pos ho]; exact zone_len ho (h60 _ (zin x hx))
      · rw [if_neg ho]; exact Nat.zero_le _)
    have HL_l := Lib.hid (show ∀ x ∈ s.links, (linkPrintR x).2 = 0 → (linkPrintR x).1.length ≤ 20000 from fun x hx h => by
      unfold linkPrintR at h ⊢
      by_cases ho : linkOk x = true
      · rw [if_pos ho]; exact link_len ho
      · rw [if_neg ho]; exact Nat.zero_le _)
    have HL_s := Lib.hid (show ∀ x ∈ s.shifts, (shiftPrintR x).2 = 0 → (shiftPrintR x).1.length ≤ 20000 from fun x hx h => by
      unfold shiftPrintR at h ⊢
      by_cases ho : setB x = true
      · rw [if_pos ho]; exact shift_len ho
      · rw [if_neg ho]; exact Nat.zero_le _)
    have HY := Lib.hid (show s.rules.all (fun x => (rulePrintR x).2 == 0) = true → zs.all (fun x => (zonePrintR x.1).2 == 0) = true → s.links.all (fun x => (linkPrintR x).2 == 0) = true → s.shifts.all (fun x => (shiftPrintR x).2 == 0) = true → R = (linesT ((((([] : List (List UInt8)) ++ s.rules.map fun x => (rulePrintR x).1) ++ zs.map fun x => (zonePrintR x.1).1) ++ s.links.map fun x => (linkPrintR x).1) ++ s.shifts.map fun x => (shiftPrintR x).1), 0) from fun e1 e2 e3 e4 => by
      have e2' : s.zones.all (fun x => (zonePrintR x).2 == 0) = true := by rw [← em, List.all_map]; exact e2
      have f1 := all_ok (fun x => (rfl : rulePrintR x = _)) s.rules
      have f2 := all_ok (fun x => (rfl : zonePrintR x = _)) s.zones
      have f3 := all_ok (fun x => (rfl : linkPrintR x = _)) s.links
      have f4 := all_ok (fun x => (rfl : shiftPrintR x = _)) s.shifts
      rw [e1] at f1
      rw [e2'] at f2
      rw [e3] at f3
      rw [e4] at f4
      have g2 : (zs.map fun x => (zonePrintR x.1).1) = s.zones.map zoneT := by
        rw [← map_ok (fun x => (rfl : zonePrintR x = _)) f2.symm, ← em, List.map_map]
        rfl
      rw [← hR]
      unfold srcPrintR srcOk srcT srcLs
      rw [hmb, ← f1, ← f2, ← f3, ← f4, g2, map_ok (fun x => (rfl : rulePrintR x = _)) f1.symm, map_ok (fun x => (rfl : linkPrintR x = _)) f3.symm, map_ok (fun x => (rfl : shiftPrintR x = _)) f4.symm]
      rfl)
    have HB0 := Lib.hid (show Blk (w.alloc (.cells #[.slice p1 s.rules.length c1, .slice p2 zs.length c2, .slice p3 s.links.length c3, .slice p4 s.shifts.length c4] 27)) w.heap.size 27 #[.slice p1 s.rules.length c1, .slice p2 zs.length c2, .slice p3 s.links.length c3, .slice p4 s.shifts.length c4] ∧ Below w.heap.size w (w.alloc (.cells #[.slice p1 s.rules.length c1, .slice p2 zs.length c2, .slice p3 s.links.length c3, .slice p4 s.shifts.length c4] 27)) from ⟨Blk.new' _ _ _ rfl, hb0⟩)
    have hg : w.heap.size < (w.alloc (.cells #[.slice p1 s.rules.length c1, .slice p2 zs.length c2, .slice p3 s.links.length c3, .slice p4 s.shifts.length c4] 27)).heap.size := by simp
    have HP_r := Lib.hid (show ∀ x ∈ s.rules, ∀ W, Below (w.alloc (.cells #[.slice p1 s.rules.length c1, .slice p2 zs.length c2, .slice p3 s.links.length c3, .slice p4 s.shifts.length c4] 27)).heap.size (w.alloc (.cells #[.slice p1 s.rules.length c1, .slice p2 zs.length c2, .slice p3 s.links.length c3, .slice p4 s.shifts.length c4] 27)) W → Calls Tryz.prog 34 #[.agg x.cells] W fun e w' => e = .returned (.tuple #[.string ⟨(rulePrintR x).1.toArray⟩, .int .i64 (rulePrintR x).2]) ∧ Below W.heap.size W w' from fun x hx W _ => r10print_any x W (hz.rules x hx).1 (hz.rules x hx).2)
    have HP_l := Lib.hid (show ∀ x ∈ s.links, ∀ W, Below (w.alloc (.cells #[.slice p1 s.rules.length c1, .slice p2 zs.length c2, .slice p3 s.links.length c3, .slice p4 s.shifts.length c4] 27)).heap.size (w.alloc (.cells #[.slice p1 s.rules.length c1, .slice p2 zs.length c2, .slice p3 s.links.length c3, .slice p4 s.shifts.length c4] 27)) W → Calls Tryz.prog 36 #[.agg x.cells] W fun e w' => e = .returned (.tuple #[.string ⟨(linkPrintR x).1.toArray⟩, .int .i64 (linkPrintR x).2]) ∧ Below W.heap.size W w' from fun x hx W _ => r12print_any x W (hz.links x hx).1 (hz.links x hx).2)
    have HP_s := Lib.hid (show ∀ x ∈ s.shifts, ∀ W, Below (w.alloc (.cells #[.slice p1 s.rules.length c1, .slice p2 zs.length c2, .slice p3 s.links.length c3, .slice p4 s.shifts.length c4] 27)).heap.size (w.alloc (.cells #[.slice p1 s.rules.length c1, .slice p2 zs.length c2, .slice p3 s.links.length c3, .slice p4 s.shifts.length c4] 27)) W → Calls Tryz.prog 37 #[.string ⟨x.toArray⟩] W fun e w' => e = .returned (.tuple #[.string ⟨(shiftPrintR x).1.toArray⟩, .int .i64 (shiftPrintR x).2]) ∧ Below W.heap.size W w' from fun x hx W _ => r12shift_any x W (hz.shifts x hx))
    have HP_z := Lib.hid (show ∀ x ∈ zs, ∀ W, Below (w.alloc (.cells #[.slice p1 s.rules.length c1, .slice p2 zs.length c2, .slice p3 s.links.length c3, .slice p4 s.shifts.length c4] 27)).heap.size (w.alloc (.cells #[.slice p1 s.rules.length c1, .slice p2 zs.length c2, .slice p3 s.links.length c3, .slice p4 s.shifts.length c4] 27)) W → Calls Tryz.prog 35 #[.agg (encZ x)] W fun e w' => e = .returned (zAns (zonePrintR x.1)) ∧ Below W.heap.size W w' from fun x hx W hW => by
      have hbW : Below w.heap.size w W := hb0.trans (hW.mono (Nat.le_of_lt hg))
      refine (r14zone_any x.1 x.2 W (((hv x hx).below hbW).mono hbW.size) (hz.zones _ (zin x hx)) (h60 _ (zin x hx))).mono ?_
      rintro e w' ⟨rfl, hb⟩
      exact ⟨by rw [zAns_of], hb⟩)
    have HR1 := Lib.hid hr1
    have HR2 := Lib.hid hr2
    have HR3 := Lib.hid hr3
    have HR4 := Lib.hid hr4
    clear hs hr1 hr2 hr3 hr4 hv hb0 hR hz em zin h60 hnot hmb
    rw [← lz] at n2
    clear lz
    go_enter Tryz.func12, Tryz.ntmps12
    go_upto_region 1 with fail
    generalize hSC : (#[.slice p1 s.rules.length c1, .slice p2 zs.length c2, .slice p3 s.links.length c3, .slice p4 s.shifts.length c4] : Array Value) = SC at *
    have HSC := Lib.hid hSC.symm
    clear hSC
    have hC4 : SC.size = 4 := by rw [HSC.out]; rfl
    generalize w.alloc (.cells SC 27) = w0 at *
    have a0 := HB0.out.1.cell_ (i := 0) (by rw [HSC.out]; rfl)
    have a1 := HB0.out.1.cell_ (i := 1) (by rw [HSC.out]; rfl)
    have a2 := HB0.out.1.cell_ (i := 2) (by rw [HSC.out]; rfl)
    have a3 := HB0.out.1.cell_ (i := 3) (by rw [HSC.out]; rfl)
    rw [HSC.out] at HM
    go_wp2_with fail
    refine HM.out.mono ?_
    rintro e w1 ⟨rfl, hb⟩
    have HO := Lib.hid (show Own w0 (.slice none 0 0) ([] : List (List UInt8)) w1 from ⟨World.ownsRow_nil .., fun a h => absurd h List.not_mem_nil, hb⟩)
    clear hb HM a0 a1 a2 a3
    go_wp2_with fail
    go_loopw [4, 5, 6, 7] (fun v i _ _ wr => ∃ k : Nat, k ≤ s.rules.length ∧ i = .int .i64 (k : Int) ∧ Hid (Own w0 v (([] : List (List UInt8)) ++ (s.rules.take k).map fun x => (rulePrintR x).1) wr) ∧ Hid ((s.rules.take k).all (fun x => (rulePrintR x).2 == 0) = true)) (fun _ i _ _ _ => s.rules.length - (intOf i).toNat)
    case atStart => exact ⟨0, Nat.zero_le _, rfl, Lib.hid (by simpa using HO.out), Lib.hid (by simp)⟩
    case round =>
      clear HO
      obtain ⟨k, hk, rfl, HO, HA⟩ := hrel
      have a0 : wr.cell? ⟨w.heap.size, 0, none⟩ = some (.slice p1 s.rules.length c1) := (HO.out.2.2.cell (p := ⟨w.heap.size, 0, none⟩) hg).trans (HB0.out.1.cell_ (by rw [HSC.out]; rfl))
      by_cases hlt : k < s.rules.length
      · obtain ⟨x, hx⟩ : ∃ x, s.rules[k]? = some x := ⟨_, List.getElem?_eq_getElem hlt⟩
        obtain ⟨b, o, rfl, hbn, hrow⟩ := HR1.out (by intro h; rw [h] at hlt; simp at hlt)
        have HC := Lib.hid (show wr.rangeAt b (o + k * 11) (RuleP.cells x).toList from fun j v hv => ((HB0.out.2.trans (HO.out.2.2.mono (Nat.le_of_lt hg))).cell (p := ⟨b, o + k * 11 + j, none⟩) hbn).trans (hrow k x hx j v hv))
        have hTi : (Tryz.prog.info? 47).map (·.size) = some (RuleP.cells x).size := by kernel_rfl
        have HN := Lib.hid (HP_r.out x (List.mem_of_getElem? hx) wr HO.out.2.2)
        have hX : s.rules[k]'hlt = x := by rw [List.getElem?_eq_getElem hlt] at hx; exact Option.some.inj hx
        have hal := okOf rulePrintR s.rules k hlt
        rw [hX] at hal
        have hmp : (([] : List (List UInt8)) ++ (s.rules.take (k + 1)).map fun x => (rulePrintR x).1) = (([] : List (List UInt8)) ++ (s.rules.take k).map fun x => (rulePrintR x).1) ++ [(rulePrintR x).1] := by rw [List.take_add_one, hx]; simp
        obtain ⟨Os, hOs⟩ : ∃ Os, (([] : List (List UInt8)) ++ (s.rules.take k).map fun x => (rulePrintR x).1) = Os := ⟨_, rfl⟩
        rw [hOs] at hmp HO
        have HNO := Lib.hid (show (rulePrintR x).2 ≠ 0 → R = ([], 2) from fun h => HF_r.out x (List.mem_of_getElem? hx) h)
        have HLE := Lib.hid (show (rulePrintR x).2 = 0 → (rulePrintR x).1.length ≤ 20000 from fun h => HL_r.out x (List.mem_of_getElem? hx) h)
        have hd : decide ((k : Int) < (s.rules.length : Int)) = true := by simp; omega
        have k0 : (0 : Int) ≤ (k : Int) := by omega
        have kl : (k : Int) < (s.rules.length : Int) := by omega
        have hpl : Os.length ≤ 10000 := by rw [← hOs]; simp; omega
        clear hrow hx HR1 hX hOs
        generalize RuleP.cells x = C at *
        generalize rulePrintR x = y at *
        obtain ⟨y1, y2⟩ := y
        simp only at HN HNO HLE hal hmp
        have HAL := Lib.hid hal
        have HMP := Lib.hid hmp
        clear hal hmp
        by_cases hy : y2 = 0
        · subst hy
          have hle := HLE.out rfl
          have HA5 := Lib.hid (show (s.rules.take (k + 1)).all (fun x => (rulePrintR x).2 == 0) = true by rw [HAL.out, HA.out]; rfl)
          clear HNO HLE HAL HA
          obtain ⟨q, rfl⟩ := asBl y1
          replace HN := Lib.hid (show Calls Tryz.prog 34 #[.agg C] wr fun e w' => e = .returned (.tuple #[.string q, .int .i64 0]) ∧ Below wr.heap.size wr w' from by have := HN.out; rwa [ba_back] at this)
          have hq : q.size ≤ 20000 := by simpa using hle
          go_wp2_with (first | (refine wpList_load_arr rfl 47 (.tmp 30) rfl b (o + k * 11) rfl C _ HC.out Tryz.underlying47 rfl hTi ?_) | fail)
          refine HN.out.mono ?_
          rintro e w5 ⟨rfl, hb5⟩
          have HO5 := Lib.hid (HO.out.kept hb5)
          have hln := HO5.out.len hpl (by decide)
          clear hb5 HN HO HC a0
          go_wp2_with (first | (at_builtin; refine Lib.wpList_append_own_string _ rfl (.tmp 37) (.tmp 38) 36 9 rfl w0.heap.size 5 i0 Tryz.underlying36 Tryz.underlying9 hi hz0 hz1 hz2 _ _ _ rfl HO5.out.1 q rfl ?c1 ?c2 ?c3 ?_) | fail)
          case c1 => unfold maxLen; omega
          case c2 => omega
          case c3 => exact HO5.out.2.2.size
          intro v1 wa hown hgrow _
          have HW6 := Lib.hid (show Below w0.heap.size w0 wa from HO5.out.2.2.grown hgrow HO5.out.2.2.size (own_base HO5.out.1))
          have HOW := Lib.hid hown
          clear hown hgrow
          go_wp2_with (first | (at_builtin; refine wpList_append_any _ rfl (.tmp 39) (.tmp 40) 36 rfl w0.heap.size 5 i0 (.int .u8 0) 1 1 Tryz.underlying36 hi hz0 hz1 hz2 rfl (by decide) _ _ _ rfl (HOW.out.alloc _) (wa.heap.size + 1) (some ⟨wa.heap.size, 0, none⟩) 1 1 [.int .u8 10] rfl ?c0 ?c1 ?c2 ?c3 ?c4 ?_) | fail)
          case c0 => exact ⟨rfl, fun _ => ⟨_, rfl, by simp, cell_one _ _ _⟩⟩
          case c1 => intro u hu; simp at hu; subst hu; rfl
          case c2 => unfold maxLen; omega
          case c3 => omega
          case c4 => have := HW6.out.size; simp; omega
          intro v2 wb hown hgrow _
          have HO9 := Lib.hid (show Own w0 v2 (([] : List (List UInt8)) ++ (s.rules.take (k + 1)).map fun x => (rulePrintR x).1) wb from by
            rw [HMP.out]
            refine ⟨?_, ?_, below_push HW6.out HW6.out.size HOW.out hgrow⟩
            · rw [show linesT (Os ++ [q.data.toList]) = linesT Os ++ q.data.toList ++ [10] from by rw [linesT_snoc], Lib.byteCells_append, Lib.byteCells_append, ← Lib.strCells_eq, List.length_append, List.length_append, show q.data.toList.length = q.size by simp]
              simpa [Lib.byteCells] using hown
            · intro a ha
              rcases List.mem_append.1 ha with ha | ha
              · exact HO5.out.2.1 a ha
              · rw [List.mem_singleton] at ha; subst ha; simpa using hq)
          clear hown hgrow HO5 HMP HW6 HOW
          go_wp2_with fail
          go_roundw
          case rel => exact ⟨k + 1, by omega, by go_num, HO9, HA5⟩
          case measure => simp [intOf]; omega
        · have hyb : (y2 != 0) = true := by rw [bne_iff_ne]; exact hy
          have HF := Lib.hid (HNO.out hy)
          clear HNO HLE HAL HA HMP
          obtain ⟨q, rfl⟩ := asBl y1
          replace HN := Lib.hid (show Calls Tryz.prog 34 #[.agg C] wr fun e w' => e = .returned (.tuple #[.string q, .int .i64 y2]) ∧ Below wr.heap.size wr w' from by have := HN.out; rwa [ba_back] at this)
          go_wp2_with (first | (refine wpList_load_arr rfl 47 (.tmp 30) rfl b (o + k * 11) rfl C _ HC.out Tryz.underlying47 rfl hTi ?_) | fail)
          refine HN.out.mono ?_
          rintro e w5 ⟨rfl, hb5⟩
          have HO5 := Lib.hid (HO.out.kept hb5)
          clear hb5 HN HO HC a0
          go_wp2_with fail
          go_ret2
          exact ⟨by rw [HF.out]; rfl, HB0.out.2.trans (HO5.out.2.2.mono (Nat.le_of_lt hg))⟩
      · obtain rfl : k = s.rules.length := by omega
        have hd : decide ((s.rules.length : Int) < (s.rules.length : Int)) = false := by simp
        have HA_r := Lib.hid (show s.rules.all (fun x => (rulePrintR x).2 == 0) = true from by have := HA.out; rwa [List.take_length] at this)
        have HO1 := Lib.hid (show Own w0 u4 (([] : List (List UInt8)) ++ s.rules.map fun x => (rulePrintR x).1) wr from by have := HO.out; rwa [List.take_length] at this)
        clear HA HO hlt hk
        obtain ⟨HO⟩ : Nonempty (Hid (Own w0 u4 (([] : List (List UInt8)) ++ s.rules.map fun x => (rulePrintR x).1) wr)) := ⟨HO1⟩
        clear HO1
        go_wp2_with fail
        go_loopw [4, 8, 9, 10] (fun v i _ _ wr => ∃ k : Nat, k ≤ zs.length ∧ i = .int .i64 (k : Int) ∧ Hid (Own w0 v ((([] : List (List UInt8)) ++ s.rules.map fun x => (rulePrintR x).1) ++ (zs.take k).map fun x => (zonePrintR x.1).1) wr) ∧ Hid ((zs.take k).all (fun x => (zonePrintR x.1).2 == 0) = true)) (fun _ i _ _ _ => zs.length - (intOf i).toNat)
        case atStart => exact ⟨0, Nat.zero_le _, rfl, Lib.hid (by simpa using HO.out), Lib.hid (by simp)⟩
        case round =>
          clear HO
          obtain ⟨k, hk, rfl, HO, HA⟩ := hrel
          have a0 : wr.cell? ⟨w.heap.size, 1, none⟩ = some (.slice p2 zs.length c2) := (HO.out.2.2.cell (p := ⟨w.heap.size, 1, none⟩) hg).trans (HB0.out.1.cell_ (by rw [HSC.out]; rfl))
          by_cases hlt : k < zs.length
          · obtain ⟨x, hx⟩ : ∃ x, zs[k]? = some x := ⟨_, List.getElem?_eq_getElem hlt⟩
            obtain ⟨b, o, rfl, hbn, hrow⟩ := HR2.out (by intro h; rw [h] at hlt; simp at hlt)
            have HC := Lib.hid (show wr.rangeAt b (o + k * 2) (encZ x).toList from fun j v hv => ((HB0.out.2.trans (HO.out.2.2.mono (Nat.le_of_lt hg))).cell (p := ⟨b, o + k * 2 + j, none⟩) hbn).trans (hrow k x hx j v hv))
            have hTi : (Tryz.prog.info? 50).map (·.size) = some (encZ x).size := by kernel_rfl
            have HN := Lib.hid (show Calls Tryz.prog 35 #[.agg (encZ x)] wr fun e w' => e = .returned (zAns (zonePrintR x.1)) ∧ Below wr.heap.size wr w' from HP_z.out x (List.mem_of_getElem? hx) wr HO.out.2.2)
            have hX : zs[k]'hlt = x := by rw [List.getElem?_eq_getElem hlt] at hx; exact Option.some.inj hx
            have hal := okOf (fun q : ZoneP × Value => zonePrintR q.1) zs k hlt
            rw [hX] at hal
            have hmp : ((([] : List (List UInt8)) ++ s.rules.map fun x => (rulePrintR x).1) ++ (zs.take (k + 1)).map fun x => (zonePrintR x.1).1) = ((([] : List (List UInt8)) ++ s.rules.map fun x => (rulePrintR x).1) ++ (zs.take k).map fun x => (zonePrintR x.1).1) ++ [(zonePrintR x.1).1] := by rw [List.take_add_one, hx]; simp
            obtain ⟨Os, hOs⟩ : ∃ Os, ((([] : List (List UInt8)) ++ s.rules.map fun x => (rulePrintR x).1) ++ (zs.take k).map fun x => (zonePrintR x.1).1) = Os := ⟨_, rfl⟩
            rw [hOs] at hmp HO
            have HNO := Lib.hid (show (zonePrintR x.1).2 ≠ 0 → R = ([], 2) from fun h => HF_z.out x (List.mem_of_getElem? hx) h)
            have HLE := Lib.hid (show (zonePrintR x.1).2 = 0 → (zonePrintR x.1).1.length ≤ 20000 from fun h => HL_z.out x (List.mem_of_getElem? hx) h)
            have hd : decide ((k : Int) < (zs.length : Int)) = true := by simp; omega
            have k0 : (0 : Int) ≤ (k : Int) := by omega
            have kl : (k : Int) < (zs.length : Int) := by omega
            have hpl : Os.length ≤ 10000 := by rw [← hOs]; simp; omega
            clear hrow hx HR2 hX hOs
            generalize encZ x = C at *
            generalize zonePrintR x.1 = y at *
            obtain ⟨y1, y2⟩ := y
            simp only at HN HNO HLE hal hmp
            have HAL := Lib.hid hal
            have HMP := Lib.hid hmp
            clear hal hmp
            by_cases hy : y2 = 0
            · subst hy
              have hle := HLE.out rfl
              have HA5 := Lib.hid (show (zs.take (k + 1)).all (fun x => (zonePrintR x.1).2 == 0) = true by rw [HAL.out, HA.out]; rfl)
              clear HNO HLE HAL HA
              obtain ⟨q, rfl⟩ := asBl y1
              replace HN := Lib.hid (show Calls Tryz.prog 35 #[.agg C] wr fun e w' => e = .returned (.tuple #[.string ⟨(q.data.toList ++ [10]).toArray⟩, .bool true]) ∧ Below wr.heap.size wr w' from by have := HN.out; rwa [zAns_yes] at this)
              obtain ⟨q0, hq0⟩ : ∃ q0 : List UInt8, q.data.toList = q0 := ⟨_, rfl⟩
              rw [hq0] at HN hle HMP
              clear hq0 q
              obtain ⟨q, hqz0⟩ := asBl (q0 ++ [10])
              rw [hqz0, ba_back] at HN
              have hqz : q0 ++ [10] = q.data.toList := hqz0
              have hlq : q.size ≤ 20001 := by have := congrArg List.length hqz0; simp at this; omega
              go_wp2_with (first | (refine wpList_load_arr rfl 50 (.tmp 53) rfl b (o + k * 2) rfl C _ HC.out Tryz.underlying50 rfl hTi ?_) | fail)
              refine HN.out.mono ?_
              rintro e w5 ⟨rfl, hb5⟩
              have HO5 := Lib.hid (HO.out.kept hb5)
              have hln := HO5.out.len hpl (by decide)
              clear hb5 HN HO HC a0
              go_wp2_with (first | (at_builtin; refine Lib.wpList_append_own_string _ rfl (.tmp 60) (.tmp 61) 36 9 rfl w0.heap.size 5 i0 Tryz.underlying36 Tryz.underlying9 hi hz0 hz1 hz2 _ _ _ rfl HO5.out.1 q rfl ?c1 ?c2 ?c3 ?_) | fail)
              case c1 => unfold maxLen; omega
              case c2 => omega
              case c3 => exact HO5.out.2.2.size
              intro v1 wa hown hgrow _
              have HO9 := Lib.hid (show Own w0 v1 ((([] : List (List UInt8)) ++ s.rules.map fun x => (rulePrintR x).1) ++ (zs.take (k + 1)).map fun x => (zonePrintR x.1).1) wa from by
                rw [HMP.out]
                refine ⟨?_, ?_, HO5.out.2.2.grown hgrow HO5.out.2.2.size (own_base HO5.out.1)⟩
                · rw [show linesT (Os ++ [q0]) = linesT Os ++ q.data.toList from by rw [linesT_snoc, List.append_assoc, hqz], Lib.byteCells_append, ← Lib.strCells_eq, List.length_append, show q.data.toList.length = q.size by simp]
                  exact hown
                · intro a ha
                  rcases List.mem_append.1 ha with ha | ha
                  · exact HO5.out.2.1 a ha
                  · rw [List.mem_singleton] at ha; subst ha; exact hle)
              clear hown hgrow HO5 HMP
              go_wp2_with fail
              go_roundw
              case rel => exact ⟨k + 1, by omega, by go_num, HO9, HA5⟩
              case measure => simp [intOf]; omega
            · have hyb : (y2 != 0) = true := by rw [bne_iff_ne]; exact hy
              have HF := Lib.hid (HNO.out hy)
              clear HNO HLE HAL HA HMP
              obtain ⟨q, rfl⟩ := asBl y1
              replace HN := Lib.hid (show Calls Tryz.prog 35 #[.agg C] wr fun e w' => e = .returned (.tuple #[.string ⟨#[]⟩, .bool false]) ∧ Below wr.heap.size wr w' from by have := HN.out; rwa [zAns_no _ hy] at this)
              go_wp2_with (first | (refine wpList_load_arr rfl 50 (.tmp 53) rfl b (o + k * 2) rfl C _ HC.out Tryz.underlying50 rfl hTi ?_) | fail)
              refine HN.out.mono ?_
              rintro e w5 ⟨rfl, hb5⟩
              have HO5 := Lib.hid (HO.out.kept hb5)
              clear hb5 HN HO HC a0
              go_wp2_with fail
              go_ret2
              exact ⟨by rw [HF.out]; rfl, HB0.out.2.trans (HO5.out.2.2.mono (Nat.le_of_lt hg))⟩
          · obtain rfl : k = zs.length := by omega
            have hd : decide ((zs.length : Int) < (zs.length : Int)) = false := by simp
            have HA_z := Lib.hid (show zs.all (fun x => (zonePrintR x.1).2 == 0) = true from by have := HA.out; rwa [List.take_length] at this)
            have HO1 := Lib.hid (show Own w0 u4 ((([] : List (List UInt8)) ++ s.rules.map fun x => (rulePrintR x).1) ++ zs.map fun x => (zonePrintR x.1).1) wr from by have := HO.out; rwa [List.take_length] at this)
            clear HA HO hlt hk
            obtain ⟨HO⟩ : Nonempty (Hid (Own w0 u4 ((([] : List (List UInt8)) ++ s.rules.map fun x => (rulePrintR x).1) ++ zs.map fun x => (zonePrintR x.1).1) wr)) := ⟨HO1⟩
            clear HO1
            go_wp2_with fail
            go_loopw [4, 11, 12, 13] (fun v i _ _ wr => ∃ k : Nat, k ≤ s.links.length ∧ i = .int .i64 (k : Int) ∧ Hid (Own w0 v (((([] : List (List UInt8)) ++ s.rules.map fun x => (rulePrintR x).1) ++ zs.map fun x => (zonePrintR x.1).1) ++ (s.links.take k).map fun x => (linkPrintR x).1) wr) ∧ Hid ((s.links.take k).all (fun x => (linkPrintR x).2 == 0) = true)) (fun _ i _ _ _ => s.links.length - (intOf i).toNat)
            case atStart => exact ⟨0, Nat.zero_le _, rfl, Lib.hid (by simpa using HO.out), Lib.hid (by simp)⟩
            case round =>
              clear HO
              obtain ⟨k, hk, rfl, HO, HA⟩ := hrel
              have a0 : wr.cell? ⟨w.heap.size, 2, none⟩ = some (.slice p3 s.links.length c3) := (HO.out.2.2.cell (p := ⟨w.heap.size, 2, none⟩) hg).trans (HB0.out.1.cell_ (by rw [HSC.out]; rfl))
              by_cases hlt : k < s.links.length
              · obtain ⟨x, hx⟩ : ∃ x, s.links[k]? = some x := ⟨_, List.getElem?_eq_getElem hlt⟩
                obtain ⟨b, o, rfl, hbn, hrow⟩ := HR3.out (by intro h; rw [h] at hlt; simp at hlt)
                have HC := Lib.hid (show wr.rangeAt b (o + k * 2) (LinkP.cells x).toList from fun j v hv => ((HB0.out.2.trans (HO.out.2.2.mono (Nat.le_of_lt hg))).cell (p := ⟨b, o + k * 2 + j, none⟩) hbn).trans (hrow k x hx j v hv))
                have hTi : (Tryz.prog.info? 58).map (·.size) = some (LinkP.cells x).size := by kernel_rfl
                have HN := Lib.hid (HP_l.out x (List.mem_of_getElem? hx) wr HO.out.2.2)
                have hX : s.links[k]'hlt = x := by rw [List.getElem?_eq_getElem hlt] at hx; exact Option.some.inj hx
                have hal := okOf linkPrintR s.links k hlt
                rw [hX] at hal
                have hmp : (((([] : List (List UInt8)) ++ s.rules.map fun x => (rulePrintR x).1) ++ zs.map fun x => (zonePrintR x.1).1) ++ (s.links.take (k + 1)).map fun x => (linkPrintR x).1) = (((([] : List (List UInt8)) ++ s.rules.map fun x => (rulePrintR x).1) ++ zs.map fun x => (zonePrintR x.1).1) ++ (s.links.take k).map fun x => (linkPrintR x).1) ++ [(linkPrintR x).1] := by rw [List.take_add_one, hx]; simp
                obtain ⟨Os, hOs⟩ : ∃ Os, (((([] : List (List UInt8)) ++ s.rules.map fun x => (rulePrintR x).1) ++ zs.map fun x => (zonePrintR x.1).1) ++ (s.links.take k).map fun x => (linkPrintR x).1) = Os := ⟨_, rfl⟩
                rw [hOs] at hmp HO
                have HNO := Lib.hid (show (linkPrintR x).2 ≠ 0 → R = ([], 2) from fun h => HF_l.out x (List.mem_of_getElem? hx) h)
                have HLE := Lib.hid (show (linkPrintR x).2 = 0 → (linkPrintR x).1.length ≤ 20000 from fun h => HL_l.out x (List.mem_of_getElem? hx) h)
                have hd : decide ((k : Int) < (s.links.length : Int)) = true := by simp; omega
                have k0 : (0 : Int) ≤ (k : Int) := by omega
                have kl : (k : Int) < (s.links.length : Int) := by omega
                have hpl : Os.length ≤ 10000 := by rw [← hOs]; simp; omega
                clear hrow hx HR3 hX hOs
                generalize LinkP.cells x = C at *
                generalize linkPrintR x = y at *
                obtain ⟨y1, y2⟩ := y
                simp only at HN HNO HLE hal hmp
                have HAL := Lib.hid hal
                have HMP := Lib.hid hmp
                clear hal hmp
                by_cases hy : y2 = 0
                · subst hy
                  have hle := HLE.out rfl
                  have HA5 := Lib.hid (show (s.links.take (k + 1)).all (fun x => (linkPrintR x).2 == 0) = true by rw [HAL.out, HA.out]; rfl)
                  clear HNO HLE HAL HA
                  obtain ⟨q, rfl⟩ := asBl y1
                  replace HN := Lib.hid (show Calls Tryz.prog 36 #[.agg C] wr fun e w' => e = .returned (.tuple #[.string q, .int .i64 0]) ∧ Below wr.heap.size wr w' from by have := HN.out; rwa [ba_back] at this)
                  have hq : q.size ≤ 20000 := by simpa using hle
                  go_wp2_with (first | (refine wpList_load_arr rfl 58 (.tmp 74) rfl b (o + k * 2) rfl C _ HC.out Tryz.underlying58 rfl hTi ?_) | fail)
                  refine HN.out.mono ?_
                  rintro e w5 ⟨rfl, hb5⟩
                  have HO5 := Lib.hid (HO.out.kept hb5)
                  have hln := HO5.out.len hpl (by decide)
                  clear hb5 HN HO HC a0
                  go_wp2_with (first | (at_builtin; refine Lib.wpList_append_own_string _ rfl (.tmp 81) (.tmp 82) 36 9 rfl w0.heap.size 5 i0 Tryz.underlying36 Tryz.underlying9 hi hz0 hz1 hz2 _ _ _ rfl HO5.out.1 q rfl ?c1 ?c2 ?c3 ?_) | fail)
                  case c1 => unfold maxLen; omega
                  case c2 => omega
                  case c3 => exact HO5.out.2.2.size
                  intro v1 wa hown hgrow _
                  have HW6 := Lib.hid (show Below w0.heap.size w0 wa from HO5.out.2.2.grown hgrow HO5.out.2.2.size (own_base HO5.out.1))
                  have HOW := Lib.hid hown
                  clear hown hgrow
                  go_wp2_with (first | (at_builtin; refine wpList_append_any _ rfl (.tmp 83) (.tmp 84) 36 rfl w0.heap.size 5 i0 (.int .u8 0) 1 1 Tryz.underlying36 hi hz0 hz1 hz2 rfl (by decide) _ _ _ rfl (HOW.out.alloc _) (wa.heap.size + 1) (some ⟨wa.heap.size, 0, none⟩) 1 1 [.int .u8 10] rfl ?c0 ?c1 ?c2 ?c3 ?c4 ?_) | fail)
                  case c0 => exact ⟨rfl, fun _ => ⟨_, rfl, by simp, cell_one _ _ _⟩⟩
                  case c1 => intro u hu; simp at hu; subst hu; rfl
                  case c2 => unfold maxLen; omega
                  case c3 => omega
                  case c4 => have := HW6.out.size; simp; omega
                  intro v2 wb hown hgrow _
                  have HO9 := Lib.hid (show Own w0 v2 (((([] : List (List UInt8)) ++ s.rules.map fun x => (rulePrintR x).1) ++ zs.map fun x => (zonePrintR x.1).1) ++ (s.links.take (k + 1)).map fun x => (linkPrintR x).1) wb from by
                    rw [HMP.out]
                    refine ⟨?_, ?_, below_push HW6.out HW6.out.size HOW.out hgrow⟩
                    · rw [show linesT (Os ++ [q.data.toList]) = linesT Os ++ q.data.toList ++ [10] from by rw [linesT_snoc], Lib.byteCells_append, Lib.byteCells_append, ← Lib.strCells_eq, List.length_append, List.length_append, show q.data.toList.length = q.size by simp]
                      simpa [Lib.byteCells] using hown
                    · intro a ha
                      rcases List.mem_append.1 ha with ha | ha
                      · exact HO5.out.2.1 a ha
                      · rw [List.mem_singleton] at ha; subst ha; simpa using hq)
                  clear hown hgrow HO5 HMP HW6 HOW
                  go_wp2_with fail
                  go_roundw
                  case rel => exact ⟨k + 1, by omega, by go_num, HO9, HA5⟩
                  case measure => simp [intOf]; omega
                · have hyb : (y2 != 0) = true := by rw [bne_iff_ne]; exact hy
                  have HF := Lib.hid (HNO.out hy)
                  clear HNO HLE HAL HA HMP
                  obtain ⟨q, rfl⟩ := asBl y1
                  replace HN := Lib.hid (show Calls Tryz.prog 36 #[.agg C] wr fun e w' => e = .returned (.tuple #[.string q, .int .i64 y2]) ∧ Below wr.heap.size wr w' from by have := HN.out; rwa [ba_back] at this)
                  go_wp2_with (first | (refine wpList_load_arr rfl 58 (.tmp 74) rfl b (o + k * 2) rfl C _ HC.out Tryz.underlying58 rfl hTi ?_) | fail)
                  refine HN.out.mono ?_
                  rintro e w5 ⟨rfl, hb5⟩
                  have HO5 := Lib.hid (HO.out.kept hb5)
                  clear hb5 HN HO HC a0
                  go_wp2_with fail
                  go_ret2
                  exact ⟨by rw [HF.out]; rfl, HB0.out.2.trans (HO5.out.2.2.mono (Nat.le_of_lt hg))⟩
              · obtain rfl : k = s.links.length := by omega
                have hd : decide ((s.links.length : Int) < (s.links.length : Int)) = false := by simp
                have HA_l := Lib.hid (show s.links.all (fun x => (linkPrintR x).2 == 0) = true from by have := HA.out; rwa [List.take_length] at this)
                have HO1 := Lib.hid (show Own w0 u4 (((([] : List (List UInt8)) ++ s.rules.map fun x => (rulePrintR x).1) ++ zs.map fun x => (zonePrintR x.1).1) ++ s.links.map fun x => (linkPrintR x).1) wr from by have := HO.out; rwa [List.take_length] at this)
                clear HA HO hlt hk
                obtain ⟨HO⟩ : Nonempty (Hid (Own w0 u4 (((([] : List (List UInt8)) ++ s.rules.map fun x => (rulePrintR x).1) ++ zs.map fun x => (zonePrintR x.1).1) ++ s.links.map fun x => (linkPrintR x).1) wr)) := ⟨HO1⟩
                clear HO1
                go_wp2_with fail
                go_loopw [4, 14, 15, 16] (fun v i _ _ wr => ∃ k : Nat, k ≤ s.shifts.length ∧ i = .int .i64 (k : Int) ∧ Hid (Own w0 v ((((([] : List (List UInt8)) ++ s.rules.map fun x => (rulePrintR x).1) ++ zs.map fun x => (zonePrintR x.1).1) ++ s.links.map fun x => (linkPrintR x).1) ++ (s.shifts.take k).map fun x => (shiftPrintR x).1) wr) ∧ Hid ((s.shifts.take k).all (fun x => (shiftPrintR x).2 == 0) = true)) (fun _ i _ _ _ => s.shifts.length - (intOf i).toNat)
                case atStart => exact ⟨0, Nat.zero_le _, rfl, Lib.hid (by simpa using HO.out), Lib.hid (by simp)⟩
                case round =>
                  clear HO
                  obtain ⟨k, hk, rfl, HO, HA⟩ := hrel
                  have a0 : wr.cell? ⟨w.heap.size, 3, none⟩ = some (.slice p4 s.shifts.length c4) := (HO.out.2.2.cell (p := ⟨w.heap.size, 3, none⟩) hg).trans (HB0.out.1.cell_ (by rw [HSC.out]; rfl))
                  by_cases hlt : k < s.shifts.length
                  · obtain ⟨x, hx⟩ : ∃ x, s.shifts[k]? = some x := ⟨_, List.getElem?_eq_getElem hlt⟩
                    obtain ⟨b, o, rfl, hbn, hrow⟩ := HR4.out (by intro h; rw [h] at hlt; simp at hlt)
                    have HC := Lib.hid (show wr.rangeAt b (o + k * 1) (encS x).toList from fun j v hv => ((HB0.out.2.trans (HO.out.2.2.mono (Nat.le_of_lt hg))).cell (p := ⟨b, o + k * 1 + j, none⟩) hbn).trans (hrow k x hx j v hv))
                    have HN := Lib.hid (HP_s.out x (List.mem_of_getElem? hx) wr HO.out.2.2)
                    have hX : s.shifts[k]'hlt = x := by rw [List.getElem?_eq_getElem hlt] at hx; exact Option.some.inj hx
                    have hal := okOf shiftPrintR s.shifts k hlt
                    rw [hX] at hal
                    have hmp : ((((([] : List (List UInt8)) ++ s.rules.map fun x => (rulePrintR x).1) ++ zs.map fun x => (zonePrintR x.1).1) ++ s.links.map fun x => (linkPrintR x).1) ++ (s.shifts.take (k + 1)).map fun x => (shiftPrintR x).1) = ((((([] : List (List UInt8)) ++ s.rules.map fun x => (rulePrintR x).1) ++ zs.map fun x => (zonePrintR x.1).1) ++ s.links.map fun x => (linkPrintR x).1) ++ (s.shifts.take k).map fun x => (shiftPrintR x).1) ++ [(shiftPrintR x).1] := by rw [List.take_add_one, hx]; simp
                    obtain ⟨Os, hOs⟩ : ∃ Os, ((((([] : List (List UInt8)) ++ s.rules.map fun x => (rulePrintR x).1) ++ zs.map fun x => (zonePrintR x.1).1) ++ s.links.map fun x => (linkPrintR x).1) ++ (s.shifts.take k).map fun x => (shiftPrintR x).1) = Os := ⟨_, rfl⟩
                    rw [hOs] at hmp HO
                    have HNO := Lib.hid (show (shiftPrintR x).2 ≠ 0 → R = ([], 2) from fun h => HF_s.out x (List.mem_of_getElem? hx) h)
                    have HLE := Lib.hid (show (shiftPrintR x).2 = 0 → (shiftPrintR x).1.length ≤ 20000 from fun h => HL_s.out x (List.mem_of_getElem? hx) h)
                    have hd : decide ((k : Int) < (s.shifts.length : Int)) = true := by simp; omega
                    have k0 : (0 : Int) ≤ (k : Int) := by omega
                    have kl : (k : Int) < (s.shifts.length : Int) := by omega
                    have hpl : Os.length ≤ 10000 := by rw [← hOs]; simp; omega
                    clear hrow hx HR4 hX hOs
                    have c1 : wr.cell? ⟨b, o + k, none⟩ = some (.string ⟨x.toArray⟩) := by have := HC.out 0 _ rfl; simpa using this
                    clear HC
                    have HC := Lib.hid trivial
                    generalize (⟨x.toArray⟩ : ByteArray) = C at *
                    generalize shiftPrintR x = y at *
                    obtain ⟨y1, y2⟩ := y
                    simp only at HN HNO HLE hal hmp
                    have HAL := Lib.hid hal
                    have HMP := Lib.hid hmp
                    clear hal hmp
                    by_cases hy : y2 = 0
                    · subst hy
                      have hle := HLE.out rfl
                      have HA5 := Lib.hid (show (s.shifts.take (k + 1)).all (fun x => (shiftPrintR x).2 == 0) = true by rw [HAL.out, HA.out]; rfl)
                      clear HNO HLE HAL HA
                      obtain ⟨q, rfl⟩ := asBl y1
                      replace HN := Lib.hid (show Calls Tryz.prog 37 #[.string C] wr fun e w' => e = .returned (.tuple #[.string q, .int .i64 0]) ∧ Below wr.heap.size wr w' from by have := HN.out; rwa [ba_back] at this)
                      have hq : q.size ≤ 20000 := by simpa using hle
                      go_wp2_with fail
                      refine HN.out.mono ?_
                      rintro e w5 ⟨rfl, hb5⟩
                      have HO5 := Lib.hid (HO.out.kept hb5)
                      have hln := HO5.out.len hpl (by decide)
                      clear hb5 HN HO HC a0
                      go_wp2_with (first | (at_builtin; refine Lib.wpList_append_own_string _ rfl (.tmp 104) (.tmp 105) 36 9 rfl w0.heap.size 5 i0 Tryz.underlying36 Tryz.underlying9 hi hz0 hz1 hz2 _ _ _ rfl HO5.out.1 q rfl ?c1 ?c2 ?c3 ?_) | fail)
                      case c1 => unfold maxLen; omega
                      case c2 => omega
                      case c3 => exact HO5.out.2.2.size
                      intro v1 wa hown hgrow _
                      have HW6 := Lib.hid (show Below w0.heap.size w0 wa from HO5.out.2.2.grown hgrow HO5.out.2.2.size (own_base HO5.out.1))
                      have HOW := Lib.hid hown
                      clear hown hgrow
                      go_wp2_with (first | (at_builtin; refine wpList_append_any _ rfl (.tmp 106) (.tmp 107) 36 rfl w0.heap.size 5 i0 (.int .u8 0) 1 1 Tryz.underlying36 hi hz0 hz1 hz2 rfl (by decide) _ _ _ rfl (HOW.out.alloc _) (wa.heap.size + 1) (some ⟨wa.heap.size, 0, none⟩) 1 1 [.int .u8 10] rfl ?c0 ?c1 ?c2 ?c3 ?c4 ?_) | fail)
                      case c0 => exact ⟨rfl, fun _ => ⟨_, rfl, by simp, cell_one _ _ _⟩⟩
                      case c1 => intro u hu; simp at hu; subst hu; rfl
                      case c2 => unfold maxLen; omega
                      case c3 => omega
                      case c4 => have := HW6.out.size; simp; omega
                      intro v2 wb hown hgrow _
                      have HO9 := Lib.hid (show Own w0 v2 ((((([] : List (List UInt8)) ++ s.rules.map fun x => (rulePrintR x).1) ++ zs.map fun x => (zonePrintR x.1).1) ++ s.links.map fun x => (linkPrintR x).1) ++ (s.shifts.take (k + 1)).map fun x => (shiftPrintR x).1) wb from by
                        rw [HMP.out]
                        refine ⟨?_, ?_, below_push HW6.out HW6.out.size HOW.out hgrow⟩
                        · rw [show linesT (Os ++ [q.data.toList]) = linesT Os ++ q.data.toList ++ [10] from by rw [linesT_snoc], Lib.byteCells_append, Lib.byteCells_append, ← Lib.strCells_eq, List.length_append, List.length_append, show q.data.toList.length = q.size by simp]
                          simpa [Lib.byteCells] using hown
                        · intro a ha
                          rcases List.mem_append.1 ha with ha | ha
                          · exact HO5.out.2.1 a ha
                          · rw [List.mem_singleton] at ha; subst ha; simpa using hq)
                      clear hown hgrow HO5 HMP HW6 HOW
                      go_wp2_with fail
                      go_roundw
                      case rel => exact ⟨k + 1, by omega, by go_num, HO9, HA5⟩
                      case measure => simp [intOf]; omega
                    · have hyb : (y2 != 0) = true := by rw [bne_iff_ne]; exact hy
                      have HF := Lib.hid (HNO.out hy)
                      clear HNO HLE HAL HA HMP
                      obtain ⟨q, rfl⟩ := asBl y1
                      replace HN := Lib.hid (show Calls Tryz.prog 37 #[.string C] wr fun e w' => e = .returned (.tuple #[.string q, .int .i64 y2]) ∧ Below wr.heap.size wr w' from by have := HN.out; rwa [ba_back] at this)
                      go_wp2_with fail
                      refine HN.out.mono ?_
                      rintro e w5 ⟨rfl, hb5⟩
                      have HO5 := Lib.hid (HO.out.kept hb5)
                      clear hb5 HN HO HC a0
                      go_wp2_with fail
                      go_ret2
                      exact ⟨by rw [HF.out]; rfl, HB0.out.2.trans (HO5.out.2.2.mono (Nat.le_of_lt hg))⟩
                  · obtain rfl : k = s.shifts.length := by omega
                    have hd : decide ((s.shifts.length : Int) < (s.shifts.length : Int)) = false := by simp
                    have HA_s := Lib.hid (show s.shifts.all (fun x => (shiftPrintR x).2 == 0) = true from by have := HA.out; rwa [List.take_length] at this)
                    have HO1 := Lib.hid (show Own w0 u4 ((((([] : List (List UInt8)) ++ s.rules.map fun x => (rulePrintR x).1) ++ zs.map fun x => (zonePrintR x.1).1) ++ s.links.map fun x => (linkPrintR x).1) ++ s.shifts.map fun x => (shiftPrintR x).1) wr from by have := HO.out; rwa [List.take_length] at this)
                    clear HA HO hlt hk
                    obtain ⟨HO⟩ : Nonempty (Hid (Own w0 u4 ((((([] : List (List UInt8)) ++ s.rules.map fun x => (rulePrintR x).1) ++ zs.map fun x => (zonePrintR x.1).1) ++ s.links.map fun x => (linkPrintR x).1) ++ s.shifts.map fun x => (shiftPrintR x).1) wr)) := ⟨HO1⟩
                    clear HO1
                    obtain ⟨A, cap, rfl, _, hR⟩ := own_slice HO.out.1
                    have HY2 := HY.out HA_r.out HA_z.out HA_l.out HA_s.out
                    have HB9 := Lib.hid (HB0.out.2.trans (HO.out.2.2.mono (Nat.le_of_lt hg)))
                    clear HO HY HA_r HA_z HA_l HA_s HB0
                    obtain ⟨T, hT⟩ : ∃ T, linesT ((((([] : List (List UInt8)) ++ s.rules.map fun x => (rulePrintR x).1) ++ zs.map fun x => (zonePrintR x.1).1) ++ s.links.map fun x => (linkPrintR x).1) ++ s.shifts.map fun x => (shiftPrintR x).1) = T := ⟨_, rfl⟩
                    rw [hT] at HY2 hR
                    rw [hT]
                    have HY3 := Lib.hid HY2
                    have hcv := Lib.BytesIn.convert (P := Tryz.prog) (bytesIn_of hR) (by simp) cap 36 5 9 Tryz.underlying36 Tryz.underlying5 Tryz.underlying9
                    rw [str_of_u8s] at hcv
                    clear hR hT HY2
                    go_wp2_with fail
                    go_ret2
                    exact ⟨by rw [HY3.out]; rfl, HB9.out⟩
end Go.Proofs.YtmcgbjjcpcgcfaaGreatDoor
