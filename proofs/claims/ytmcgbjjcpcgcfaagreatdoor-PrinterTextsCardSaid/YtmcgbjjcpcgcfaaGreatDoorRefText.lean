/-
  The reference's Print of layers 12 and 14: what the calls return.
-/
import Derived.Test.YtmcgbjjcpcgcfaaGreatDoorRefZone
import Derived.Test.YtmcgbjjcpcgcfaaGreatDoorRefEraP
import Derived.Test.YtmcgbjjcpcgcfaaGreatDoorRef10p
import Derived.Test.YtmcgbjjcpcgcfaaGreatDoorPText
import Derived.Lib.AppendStr
import Derived.Laws.IdiomStrings
set_option linter.unusedVariables false
set_option linter.unusedSimpArgs false
namespace Go.Proofs.YtmcgbjjcpcgcfaaGreatDoor
open Go.RowKit Go.Shelf

theorem ba_eq {a : ByteArray} {l : List UInt8} (h : a.data.toList = l) : (⟨l.toArray⟩ : ByteArray) = a := by subst h; simp
theorem ba_cat (a b : ByteArray) : (a ++ b).data.toList = a.data.toList ++ b.data.toList := by simp [ByteArray.data_append]
set_option maxRecDepth 100000 in
theorem r12print_any (l : LinkP) (w : World) (h1 : l.target.length ≤ 1048576) (h2 : l.name.length ≤ 1048576) :
    Calls Tryz.prog 36 #[.agg l.cells] w fun e w' => e = .returned (.tuple #[.string ⟨(linkPrintR l).1.toArray⟩, .int .i64 (linkPrintR l).2]) ∧ Below w.heap.size w w' := by
  obtain ⟨a, b⟩ := l
  obtain ⟨sa, rfl⟩ := asBl a
  obtain ⟨sb, rfl⟩ := asBl b
  simp only [LinkP.cells, ba_back]
  have HB := Lib.hid (show Below w.heap.size w (w.alloc (.cells #[.string sa, .string sb] 58)) from (Below.refl _ _).alloc (Nat.le_refl _) _)
  have HZa := Lib.hid (fun W => r7zone_any sa W (by simpa using h1))
  have HZb := Lib.hid (fun W => r7zone_any sb W (by simpa using h2))
  obtain ⟨ba, hba⟩ : ∃ b, zoneB sa.data.toList = b := ⟨_, rfl⟩
  obtain ⟨bb, hbb⟩ : ∃ b, zoneB sb.data.toList = b := ⟨_, rfl⟩
  rw [hba] at HZa
  rw [hbb] at HZb
  have HR := Lib.hid (show linkPrintR ⟨sa.data.toList, sb.data.toList⟩ = if (ba && bb) = true then (linkT ⟨sa.data.toList, sb.data.toList⟩, 0) else ([], 2) from by unfold linkPrintR linkOk; rw [hba, hbb])
  have hs1 : ba = true → sa.size ≤ 60 := fun h => by have := zoneB_len (hba.trans h); simpa using this
  have hs2 : bb = true → sb.size ≤ 60 := fun h => by have := zoneB_len (hbb.trans h); simpa using this
  clear h1 h2 hba hbb
  cases ba with
  | false =>
    go_enter Tryz.func36, Tryz.ntmps36
    go_wp2_with fail
    refine (HZa.out _).mono ?_
    rintro e w1 ⟨rfl, rfl⟩
    go_wp2_with fail
    go_ret2
    exact ⟨by rw [HR.out]; rfl, HB.out⟩
  | true =>
    have hs1 := hs1 rfl
    cases bb with
    | false =>
      go_enter Tryz.func36, Tryz.ntmps36
      go_wp2_with fail
      refine (HZa.out _).mono ?_
      rintro e w1 ⟨rfl, rfl⟩
      go_wp2_with fail
      refine (HZb.out _).mono ?_
      rintro e w1 ⟨rfl, rfl⟩
      go_wp2_with fail
      go_ret2
      exact ⟨by rw [HR.out]; rfl, HB.out⟩
    | true =>
      have hs2 := hs2 rfl
      go_enter Tryz.func36, Tryz.ntmps36
      go_wp2_with fail
      refine (HZa.out _).mono ?_
      rintro e w1 ⟨rfl, rfl⟩
      go_wp2_with fail
      refine (HZb.out _).mono ?_
      rintro e w1 ⟨rfl, rfl⟩
      go_wp2_with fail
      go_ret2
      refine ⟨?_, HB.out⟩
      rw [HR.out]
      simp [linkT]
      exact (ba_eq (by simp)).symm
set_option maxRecDepth 100000 in
theorem r12shift_any (a : List UInt8) (w : World) (h1 : a.length ≤ 1048576) :
    Calls Tryz.prog 37 #[.string ⟨a.toArray⟩] w fun e w' => e = .returned (.tuple #[.string ⟨(shiftPrintR a).1.toArray⟩, .int .i64 (shiftPrintR a).2]) ∧ Below w.heap.size w w' := by
  obtain ⟨sa, rfl⟩ := asBl a
  simp only [ba_back]
  have HZa := Lib.hid (fun W => r7Set_any sa W (by simpa using h1))
  obtain ⟨ba, hba⟩ : ∃ b, setB sa.data.toList = b := ⟨_, rfl⟩
  rw [hba] at HZa
  have HR := Lib.hid (show shiftPrintR sa.data.toList = if ba = true then (shiftT sa.data.toList, 0) else ([], 2) from by unfold shiftPrintR; rw [hba])
  have hs1 : ba = true → sa.size ≤ 30 := fun h => by have := set_len (hba.trans h); simpa using this
  clear h1 hba
  cases ba with
  | false =>
    go_enter Tryz.func37, Tryz.ntmps37
    go_wp2_with fail
    refine (HZa.out _).mono ?_
    rintro e w1 ⟨rfl, rfl⟩
    go_wp2_with fail
    go_ret2
    exact ⟨by rw [HR.out]; rfl, Below.refl _ _⟩
  | true =>
    have hs1 := hs1 rfl
    go_enter Tryz.func37, Tryz.ntmps37
    go_wp2_with fail
    refine (HZa.out _).mono ?_
    rintro e w1 ⟨rfl, rfl⟩
    go_wp2_with fail
    go_ret2
    refine ⟨?_, Below.refl _ _⟩
    rw [HR.out]
    simp [shiftT]
    exact (ba_eq (by simp)).symm
set_option maxRecDepth 100000 in
set_option maxHeartbeats 1000000 in
theorem r14many_any (r z l h : Value) (zs : List (ZoneP × Value)) (s : SourceP) (w : World) (hs : SrcIs w w.heap.size r z l h zs s) (hln : s.zones.length ≤ 1048576) :
    Calls Tryz.prog 33 #[.agg #[r, z, l, h]] w fun e w' => e = .returned (.bool (manyB s)) ∧ Below w.heap.size w w' := by
  have hb0 : Below w.heap.size w (w.alloc (.cells #[r, z, l, h] 27)) := (Below.refl _ _).alloc (Nat.le_refl _) _
  obtain ⟨p1, c1, rfl⟩ := hs.1.slice
  obtain ⟨p2, c2, rfl, hr2⟩ := hs.2.1
  obtain ⟨p3, c3, rfl⟩ := hs.2.2.2.2.1.slice
  obtain ⟨p4, c4, rfl⟩ := hs.2.2.2.2.2.slice
  have HZ := Lib.hid hs.2.2.2.1
  have em : zs.map (·.1) = s.zones := hs.2.2.1
  have hzl : zs.length ≤ 1048576 := by rw [← em] at hln; simpa using hln
  have HR2 := Lib.hid hr2
  have HM := Lib.hid (show manyB s = (decide (2000 < s.rules.length) || decide (500 < zs.length) || decide (1000 < s.links.length) || decide (2000 < s.shifts.length) || zs.any fun q => decide (60 < q.1.eras.length)) from by
    unfold manyB
    rw [← em, List.length_map, List.any_map]
    rfl)
  have HB := Lib.hid (show Blk (w.alloc (.cells #[.slice p1 s.rules.length c1, .slice p2 zs.length c2, .slice p3 s.links.length c3, .slice p4 s.shifts.length c4] 27)) w.heap.size 27 #[.slice p1 s.rules.length c1, .slice p2 zs.length c2, .slice p3 s.links.length c3, .slice p4 s.shifts.length c4] ∧ Below w.heap.size w (w.alloc (.cells #[.slice p1 s.rules.length c1, .slice p2 zs.length c2, .slice p3 s.links.length c3, .slice p4 s.shifts.length c4] 27)) from ⟨Blk.new' _ _ _ rfl, hb0⟩)
  clear hs hr2 hb0 em hln
  go_enter Tryz.func33, Tryz.ntmps33
  go_upto_region 2 with fail
  generalize w.alloc (.cells #[.slice p1 s.rules.length c1, .slice p2 zs.length c2, .slice p3 s.links.length c3, .slice p4 s.shifts.length c4] 27) = w0 at *
  have a0 := HB.out.1.cell_ (i := 0) rfl
  have a1 := HB.out.1.cell_ (i := 1) rfl
  have a2 := HB.out.1.cell_ (i := 2) rfl
  have a3 := HB.out.1.cell_ (i := 3) rfl
  go_loopw [3] (fun i wr => ∃ k : Nat, k ≤ zs.length ∧ i = .int .i64 (k : Int) ∧ Hid ((zs.take k).any (fun q => decide (60 < q.1.eras.length)) = false) ∧ w0 = wr) (fun i _ => zs.length - (intOf i).toNat)
  case atStart => exact ⟨0, Nat.zero_le _, rfl, Lib.hid (by simp), rfl⟩
  case round =>
    obtain ⟨k, hk, rfl, HA, rfl⟩ := hrel
    by_cases hlt : k < zs.length
    · obtain ⟨x, hx⟩ : ∃ x, zs[k]? = some x := ⟨_, List.getElem?_eq_getElem hlt⟩
      obtain ⟨b, o, rfl, hbn, hrow⟩ := HR2.out (by intro h; rw [h] at hlt; simp at hlt)
      obtain ⟨pe, ce, he, _⟩ := HZ.out x (List.mem_of_getElem? hx)
      have c1 : w0.cell? ⟨b, o + k * 2 + 1, none⟩ = some (.slice pe x.1.eras.length ce) := (HB.out.2.cell (p := ⟨b, o + k * 2 + 1, none⟩) hbn).trans (by rw [hrow k x hx 1 x.2 rfl, he])
      have hd : decide ((k : Int) < (zs.length : Int)) = true := by simp; omega
      have k0 : (0 : Int) ≤ (k : Int) := by omega
      have kl : (k : Int) < (zs.length : Int) := by omega
      have HS := Lib.hid (show (zs.take (k + 1)).any (fun q => decide (60 < q.1.eras.length)) = decide (60 < x.1.eras.length) from by
        rw [List.take_add_one, hx, List.any_append, HA.out]; simp)
      have HT := Lib.hid (show decide (60 < x.1.eras.length) = true → manyB s = true from fun h => by
        rw [HM.out, List.any_eq_true.2 ⟨x, List.mem_of_getElem? hx, h⟩, Bool.or_true])
      clear hrow hx he HA
      rcases (by omega : 60 < x.1.eras.length ∨ ¬ 60 < x.1.eras.length) with h60 | h60
      · have hi : 60 < (x.1.eras.length : Int) := by omega
        have HF := Lib.hid (HT.out (decide_eq_true h60))
        clear HS HT
        go_wp2_with fail
        go_ret
        exact ⟨by rw [HF.out]; rfl, HB.out.2⟩
      · have hi : ¬ 60 < (x.1.eras.length : Int) := by omega
        have HF := Lib.hid (HS.out.trans (decide_eq_false h60))
        clear HS HT
        go_wp2_with fail
        go_roundw
        case rel => exact ⟨k + 1, by omega, by go_num, HF, by trivial⟩
        case measure => simp [intOf]; omega
    · obtain rfl : k = zs.length := by omega
      have hd : decide ((zs.length : Int) < (zs.length : Int)) = false := by simp
      have HE := Lib.hid (show manyB s = (decide (2000 < s.rules.length) || decide (500 < zs.length) || decide (1000 < s.links.length) || decide (2000 < s.shifts.length)) from by
        have := HA.out
        rw [List.take_length] at this
        rw [HM.out, this, Bool.or_false])
      clear HA HM HR2 HZ hlt hk
      generalize s.rules.length = n1 at *
      generalize zs.length = n2 at *
      generalize s.links.length = n3 at *
      generalize s.shifts.length = n4 at *
      rcases (by omega : 2000 < n1 ∨ ¬ 2000 < n1) with q1 | q1
      · have g1 : 2000 < (n1 : Int) := by omega
        go_wp2_with fail
        go_ret
        exact ⟨by rw [HE.out, decide_eq_true q1]; rfl, HB.out.2⟩
      have g1 : ¬ 2000 < (n1 : Int) := by omega
      rcases (by omega : 500 < n2 ∨ ¬ 500 < n2) with q2 | q2
      · have g2 : 500 < (n2 : Int) := by omega
        go_wp2_with fail
        go_ret
        exact ⟨by rw [HE.out, decide_eq_true q2, Bool.or_true]; rfl, HB.out.2⟩
      have g2 : ¬ 500 < (n2 : Int) := by omega
      rcases (by omega : 1000 < n3 ∨ ¬ 1000 < n3) with q3 | q3
      · have g3 : 1000 < (n3 : Int) := by omega
        go_wp2_with fail
        go_ret
        exact ⟨by rw [HE.out, decide_eq_true q3, Bool.or_true]; rfl, HB.out.2⟩
      have g3 : ¬ 1000 < (n3 : Int) := by omega
      rcases (by omega : 2000 < n4 ∨ ¬ 2000 < n4) with q4 | q4
      · have g4 : 2000 < (n4 : Int) := by omega
        go_wp2_with fail
        go_ret
        exact ⟨by rw [HE.out, decide_eq_true q4, Bool.or_true]; rfl, HB.out.2⟩
      have g4 : ¬ 2000 < (n4 : Int) := by omega
      go_wp2_with fail
      go_ret
      exact ⟨by rw [HE.out, decide_eq_false q1, decide_eq_false q2, decide_eq_false q3, decide_eq_false q4]; rfl, HB.out.2⟩

/-- the text of a zone, as far as its eras are written -/
def zpT (nm : List UInt8) (ls : List (List UInt8)) : List UInt8 := if ls = [] then [] else [90, 111, 110, 101, 32] ++ nm ++ [32] ++ joinB [10, 9] ls ++ [10]
theorem joinB_snoc (sep x : List UInt8) : ∀ ls : List (List UInt8), ls ≠ [] → joinB sep (ls ++ [x]) = joinB sep ls ++ sep ++ x
  | [], h => absurd rfl h
  | [a], _ => rfl
  | a :: b :: l, _ => by
    have ih := joinB_snoc sep x (b :: l) (by simp)
    simp only [List.cons_append, joinB] at ih ⊢
    rw [ih]
    simp [List.append_assoc]
theorem zpT_one (nm x : List UInt8) : zpT nm [x] = [90, 111, 110, 101, 32] ++ nm ++ [32] ++ x ++ [10] := rfl
theorem zpT_snoc (nm x : List UInt8) (ls : List (List UInt8)) (h : ls ≠ []) : zpT nm (ls ++ [x]) = zpT nm ls ++ [9] ++ x ++ [10] := by
  unfold zpT
  rw [if_neg h, if_neg (by simp), joinB_snoc _ _ _ h]
  simp [List.append_assoc]
/-- the answer of the reference's zone -/
def zoneAns (z : ZoneP) : List UInt8 × Bool := if zoneOk z = true then (zoneT z ++ [10], true) else ([], false)
theorem zoneAns_no {z : ZoneP} (h : zoneOk z = false) : zoneAns z = ([], false) := by unfold zoneAns; rw [h]; rfl
theorem zoneOk_name {z : ZoneP} (h : zoneB z.name = false) : zoneOk z = false := by unfold zoneOk; rw [h]; rfl
theorem zoneOk_none {z : ZoneP} (h : z.eras.length = 0) : zoneOk z = false := by unfold zoneOk; rw [List.eq_nil_of_length_eq_zero h]; simp
theorem zoneOk_era {z : ZoneP} {k : Nat} {e : EraP} (hk : z.eras[k]? = some e) (h : eraOk e = false) : zoneOk z = false := by
  unfold zoneOk
  rw [show z.eras.all eraOk = false from List.all_eq_false.2 ⟨e, List.mem_of_getElem? hk, by rw [h]; simp⟩, Bool.and_false]
theorem zoneOk_end {z : ZoneP} {k : Nat} {e : EraP} (hk : z.eras[k]? = some e) (h : e.til.is ≠ decide (k + 1 < z.eras.length)) : zoneOk z = false := by
  have hlt : k < z.eras.length := (List.getElem?_eq_some_iff.1 hk).1
  have : endsB z.eras = false := by
    cases hb : endsB z.eras with
    | false => rfl
    | true =>
      have := (endsB_iff z.eras).1 hb k e hk
      refine absurd ?_ h
      rw [this]
      exact decide_eq_decide.2 ⟨fun _ => by omega, fun _ => by omega⟩
  unfold zoneOk
  rw [this, Bool.and_false, Bool.false_and]
theorem zoneAns_yes {z : ZoneP} (h1 : zoneB z.name = true) (h2 : z.eras.length ≠ 0) (h3 : z.eras.all eraOk = true) (h4 : ∀ (j : Nat) (e : EraP), j < z.eras.length → z.eras[j]? = some e → e.til.is = decide (j + 1 < z.eras.length)) : zoneAns z = (zpT z.name (z.eras.map eraT), true) := by
  have h5 : endsB z.eras = true := (endsB_iff z.eras).2 fun j e he => by
    have hlt : j < z.eras.length := (List.getElem?_eq_some_iff.1 he).1
    rw [h4 j e hlt he]
    exact decide_eq_decide.2 ⟨fun _ => by omega, fun _ => by omega⟩
  have hne : z.eras ≠ [] := fun h => h2 (by rw [h]; rfl)
  have : zoneOk z = true := by
    unfold zoneOk
    rw [h1, h3, h5]
    cases hz : z.eras with
    | nil => exact absurd hz hne
    | cons a l => rfl
  unfold zoneAns
  rw [if_pos this]
  unfold zoneT zpT
  rw [if_neg (by simpa using hne)]
/-- what the reference's zone holds -/
def ZSt (w0 W : World) : Prop := Below w0.heap.size w0 W
set_option maxRecDepth 100000 in
set_option maxHeartbeats 2000000 in
theorem r14zone_any (z : ZoneP) (v : Value) (w : World) (hv : RowsAt w w.heap.size 13 EraP.cells v z.eras) (hs : ZoneSz z) (h60 : z.eras.length ≤ 60) :
    Calls Tryz.prog 35 #[.agg (encZ (z, v))] w fun e w' => e = .returned (.tuple #[.string ⟨(zoneAns z).1.toArray⟩, .bool (zoneAns z).2]) ∧ Below w.heap.size w w' := by
  obtain ⟨nm, es⟩ := z
  obtain ⟨sn, rfl⟩ := asBl nm
  obtain ⟨p, c, rfl, hr⟩ := hv
  simp only at hr h60 ⊢
  simp only [encZ, ba_back]
  have HZ := Lib.hid (fun W => r7zone_any sn W (by simpa using hs.1))
  have HP := Lib.hid (fun e (he : e ∈ es) W => r11print_any e W (hs.2 e he).1 (hs.2 e he).2)
  have HR := Lib.hid hr
  have HB := Lib.hid (show Blk (w.alloc (.cells #[.string sn, .slice p es.length c] 50)) w.heap.size 50 #[.string sn, .slice p es.length c] ∧ Below w.heap.size w (w.alloc (.cells #[.string sn, .slice p es.length c] 50)) from ⟨Blk.new' _ _ _ rfl, (Below.refl _ _).alloc (Nat.le_refl _) _⟩)
  have HN1 := Lib.hid (show zoneB sn.data.toList = false → zoneAns ⟨sn.data.toList, es⟩ = ([], false) from fun h => zoneAns_no (zoneOk_name h))
  have HN2 := Lib.hid (show es.length = 0 → zoneAns ⟨sn.data.toList, es⟩ = ([], false) from fun h => zoneAns_no (zoneOk_none h))
  have HN3 := Lib.hid (show ∀ (k : Nat) (e : EraP), es[k]? = some e → eraOk e = false → zoneAns ⟨sn.data.toList, es⟩ = ([], false) from fun k e hk h => zoneAns_no (zoneOk_era hk h))
  have HN4 := Lib.hid (show ∀ (k : Nat) (e : EraP), es[k]? = some e → e.til.is ≠ decide (k + 1 < es.length) → zoneAns ⟨sn.data.toList, es⟩ = ([], false) from fun k e hk h => zoneAns_no (zoneOk_end hk h))
  have HY := Lib.hid (show zoneB sn.data.toList = true → es.length ≠ 0 → es.all eraOk = true → (∀ (j : Nat) (e : EraP), j < es.length → es[j]? = some e → e.til.is = decide (j + 1 < es.length)) → zoneAns ⟨sn.data.toList, es⟩ = (zpT sn.data.toList (es.map eraT), true) from fun h1 h2 h3 h4 => zoneAns_yes h1 h2 h3 h4)
  have hs1 : zoneB sn.data.toList = true → sn.size ≤ 60 := fun h => by have := zoneB_len h; simpa using this
  generalize zoneAns ⟨sn.data.toList, es⟩ = R at *
  clear hr hs
  obtain ⟨bz, hbz⟩ : ∃ b, zoneB sn.data.toList = b := ⟨_, rfl⟩
  rw [hbz] at HZ HN1 HY hs1
  clear hbz
  cases bz with
  | false =>
    have HF := Lib.hid (HN1.out rfl)
    clear HN1 HN2 HN3 HN4 HY
    go_enter Tryz.func35, Tryz.ntmps35
    go_wp2_with fail
    refine (HZ.out _).mono ?_
    rintro e w1 ⟨rfl, rfl⟩
    go_wp2_with fail
    go_ret2
    exact ⟨by rw [HF.out]; rfl, HB.out.2⟩
  | true =>
    by_cases hn : es.length = 0
    · have HF := Lib.hid (HN2.out hn)
      have hn0 : ((es.length : Int) == 0) = true := by rw [hn]; rfl
      clear HN1 HN2 HN3 HN4 HY hn
      go_enter Tryz.func35, Tryz.ntmps35
      go_wp2_with fail
      refine (HZ.out _).mono ?_
      rintro e w1 ⟨rfl, rfl⟩
      go_wp2_with fail
      go_ret2
      exact ⟨by rw [HF.out]; rfl, HB.out.2⟩
    · have hsn := hs1 rfl
      have HY1 := Lib.hid (HY.out rfl hn)
      have hn0 : ((es.length : Int) == 0) = false := by rw [beq_eq_false_iff_ne]; omega
      clear HN1 HN2 HY hs1
      go_enter Tryz.func35, Tryz.ntmps35
      go_wp2_with fail
      refine (HZ.out _).mono ?_
      rintro e w1 ⟨rfl, rfl⟩
      go_upto_region 5 with fail
      generalize hw0 : w.alloc (.cells #[.string sn, .slice p es.length c] 50) = w0 at *
      have hg : w.heap.size < w0.heap.size := by rw [← hw0]; simp
      clear HZ hw0
      go_loopw [4, 5, 6, 7] (fun t i _ _ wr => ∃ (k : Nat) (T : ByteArray), k ≤ es.length ∧ i = .int .i64 (k : Int) ∧ t = .string T ∧ Hid (T.data.toList = zpT sn.data.toList ((es.take k).map eraT)) ∧ T.size ≤ 100 + k * 220 ∧ Hid ((es.take k).all eraOk = true) ∧ Hid (∀ (j : Nat) (e : EraP), j < k → es[j]? = some e → e.til.is = decide (j + 1 < es.length)) ∧ Hid (ZSt w0 wr)) (fun _ i _ _ _ => es.length - (intOf i).toNat)
      case atStart => exact ⟨0, ⟨#[]⟩, Nat.zero_le _, rfl, rfl, Lib.hid rfl, by decide, Lib.hid (by simp), Lib.hid (fun j e h => absurd h (Nat.not_lt_zero _)), Lib.hid (Below.refl _ _)⟩
      case round =>
        obtain ⟨k, T, hk, rfl, rfl, HT, hT, HA, HE, HW⟩ := hrel
        have a0 : wr.cell? ⟨w.heap.size, 0, none⟩ = some (.string sn) := (HW.out.cell (p := ⟨w.heap.size, 0, none⟩) hg).trans (HB.out.1.cell_ rfl)
        have a1 : wr.cell? ⟨w.heap.size, 1, none⟩ = some (.slice p es.length c) := (HW.out.cell (p := ⟨w.heap.size, 1, none⟩) hg).trans (HB.out.1.cell_ rfl)
        by_cases hlt : k < es.length
        · obtain ⟨x, hx⟩ : ∃ x, es[k]? = some x := ⟨_, List.getElem?_eq_getElem hlt⟩
          obtain ⟨b, o, rfl, hbn, hrow⟩ := HR.out (by intro h; rw [h] at hlt; simp at hlt)
          have hro : ∀ W, ZSt w0 W → W.rangeAt b (o + k * 13) x.cells.toList := fun W hW j v hv => ((HB.out.2.trans (Below.mono hW (Nat.le_of_lt hg))).cell (p := ⟨b, o + k * 13 + j, none⟩) hbn).trans (hrow k x hx j v hv)
          have HC := Lib.hid (hro _ HW.out)
          have HI := Lib.hid (show ∀ W, ZSt w0 W → W.cell? ⟨b, o + k * 13 + 5, none⟩ = some (.bool x.til.is) from fun W hW => hro W hW 5 _ rfl)
          have hTi : (Tryz.prog.info? 55).map (·.size) = some x.cells.size := by kernel_rfl
          have HN := Lib.hid (HP.out x (List.mem_of_getElem? hx))
          have hd : decide ((k : Int) < (es.length : Int)) = true := by simp; omega
          have k0 : (0 : Int) ≤ (k : Int) := by omega
          have kl : (k : Int) < (es.length : Int) := by omega
          obtain ⟨ok, hok⟩ : ∃ ok, eraOk x = ok := ⟨_, rfl⟩
          have hER : eraPrintR x = if ok = true then (eraT x, 0) else ([], 2) := by unfold eraPrintR; rw [hok]
          have HA1 := Lib.hid (show ok = true → (es.take (k + 1)).all eraOk = true from fun h => by rw [List.take_add_one, hx, List.all_append, HA.out]; simp [hok, h])
          have HE1 := Lib.hid (show x.til.is = decide (k + 1 < es.length) → ∀ (j : Nat) (e : EraP), j < k + 1 → es[j]? = some e → e.til.is = decide (j + 1 < es.length) from fun h j e hj he => by
            rcases (by omega : j < k ∨ j = k) with h1 | rfl
            · exact HE.out j e h1 he
            · rw [hx] at he; cases he; exact h)
          have HF3 := Lib.hid (show ok = false → R = ([], false) from fun h => HN3.out k x hx (hok.trans h))
          have HF4 := Lib.hid (show x.til.is ≠ decide (k + 1 < es.length) → R = ([], false) from HN4.out k x hx)
          have HL := Lib.hid (show ok = true → (eraT x).length ≤ 217 from fun h => eraT_len ((eraOk_iff x).1 (hok.trans h)))
          have HMp := Lib.hid (show (es.take (k + 1)).map eraT = (es.take k).map eraT ++ [eraT x] from by rw [List.take_add_one, hx]; simp)
          clear hrow hx HR hro HP HA HE HN3 HN4 hok
          rw [hER] at HN
          clear hER
          generalize hET : eraT x = et at *
          generalize hXI : x.til.is = xi at *
          generalize x.cells = C at *
          clear hET hXI
          cases ok with
          | false =>
            have HF := Lib.hid (HF3.out rfl)
            have HN := Lib.hid (show Calls Tryz.prog 84 #[.agg C] wr fun r w' => r = .returned (.tuple #[.string ⟨#[]⟩, .int .i64 2]) ∧ Below wr.heap.size wr w' from HN.out wr)
            clear HF3 HF4 HA1 HE1 HL HMp HT HI
            go_wp2_with (first | (refine wpList_load_arr rfl 55 (.tmp 29) rfl b (o + k * 13) rfl C _ HC.out Tryz.underlying55 rfl hTi ?_) | fail)
            refine HN.out.mono ?_
            rintro e w5 ⟨rfl, hb5⟩
            have HW5 := Lib.hid (show ZSt w0 w5 from Below.trans HW.out (hb5.mono (Below.size HW.out)))
            clear hb5 HN HW HC a0 a1
            go_upto_region 8 with fail
            refine wp_region_vals 18 (fun W => ZSt w0 W) (by kernel_rfl) (by kernel_rfl) rfl (Below.drew HW5.out) (fun W W' h hb => Below.trans h (hb.mono (Below.size h))) ?_
            iterate 3
              apply exV_ex rfl ?_ (fun K hK => ?_)
              any_goals
                intro W hC
                go_simp
                all_goals first | exact ⟨Below.refl _ _, rfl⟩ | exact Below.refl _ _
              any_goals
                revert hK
                intro hK
                go_simp
                refine hK _ ?_
                clear hK K
            iterate 14
              apply exV_exg ?_ (fun K hK => ?_)
              any_goals
                intro W hC
                first | exact relOp_off rfl rfl rfl rfl | exact relOp_none rfl rfl rfl | skip
                all_goals
                  refine relOp_on rfl rfl ?_
                  go_simp
                  all_goals first | exact ⟨Below.refl _ _, rfl⟩ | exact Below.refl _ _
              any_goals
                revert hK
                intro hK
                go_simp
                refine hK _ ?_
                clear hK K
            apply exV_ex rfl ?_ (fun K hK => ?_)
            any_goals
              intro W hC
              go_simp
              all_goals first | exact ⟨Below.refl _ _, rfl⟩ | exact Below.refl _ _
            any_goals
              revert hK
              intro hK
              go_simp
              refine hK _ ?_
              clear hK K
            refine exV_end fun W hC => (wpList_nil ?_)
            go_wp2_with fail
            go_ret2
            exact ⟨by rw [HF.out]; rfl, HB.out.2.trans (Below.mono hC (Nat.le_of_lt hg))⟩
          | true =>
            have hel := HL.out rfl
            obtain ⟨q, rfl⟩ := asBl et
            have hq : q.size ≤ 217 := by simpa using hel
            have HNq := Lib.hid (show Calls Tryz.prog 84 #[.agg C] wr fun r w' => r = .returned (.tuple #[.string q, .int .i64 0]) ∧ Below wr.heap.size wr w' from by
              have := HN.out wr
              simpa only [if_true, ba_back] using this)
            have HA2 := Lib.hid (HA1.out rfl)
            clear HF3 HA1 HL hel
            have hlI : decide ((k : Int) + 1 < (es.length : Int)) = decide (k + 1 < es.length) := decide_eq_decide.2 ⟨fun _ => by omega, fun _ => by omega⟩
            by_cases hxl : xi = decide (k + 1 < es.length)
            · have HE2 := Lib.hid (HE1.out hxl)
              have hbn2 : (xi != decide ((k : Int) + 1 < (es.length : Int))) = false := by rw [hlI, hxl]; simp
              clear HF4 HE1
              go_wp2_with (first | (refine wpList_load_arr rfl 55 (.tmp 29) rfl b (o + k * 13) rfl C _ HC.out Tryz.underlying55 rfl hTi ?_) | fail)
              refine HNq.out.mono ?_
              rintro e w5 ⟨rfl, hb5⟩
              have HW5 := Lib.hid (show ZSt w0 w5 from Below.trans HW.out (hb5.mono (Below.size HW.out)))
              clear hb5 HN HNq HW HC a0 a1
              have HCx := Lib.hid (show ∀ W, ZSt w0 W → W.cell? ⟨w.heap.size, 1, none⟩ = some (.slice (some ⟨b, o, none⟩) es.length c) from fun W hW => (Below.cell hW (p := ⟨w.heap.size, 1, none⟩) hg).trans (HB.out.1.cell_ rfl))
              have HC0 := Lib.hid (show ∀ W, ZSt w0 W → W.cell? ⟨w.heap.size, 0, none⟩ = some (.string sn) from fun W hW => (Below.cell hW (p := ⟨w.heap.size, 0, none⟩) hg).trans (HB.out.1.cell_ rfl))
              go_upto_region 8 with fail
              refine wp_region_vals 18 (fun W => ZSt w0 W) (by kernel_rfl) (by kernel_rfl) rfl (Below.drew HW5.out) (fun W W' h hb => Below.trans h (hb.mono (Below.size h))) ?_
              iterate 3
                apply exV_ex rfl ?_ (fun K hK => ?_)
                any_goals
                  intro W hC
                  have s1 := HCx.out W hC
                  have s2 := HI.out W hC
                  go_simp
                  all_goals first | exact ⟨Below.refl _ _, rfl⟩ | exact Below.refl _ _
                any_goals
                  revert hK
                  intro hK
                  go_simp
                  refine hK _ ?_
                  clear hK K
              iterate 8
                apply exV_exg ?_ (fun K hK => ?_)
                any_goals
                  intro W hC
                  first | exact relOp_off rfl rfl rfl rfl | exact relOp_none rfl rfl rfl | skip
                  all_goals
                    refine relOp_on rfl rfl ?_
                    have s1 := HCx.out W hC
                    have s2 := HI.out W hC
                    go_simp
                    all_goals first | exact ⟨Below.refl _ _, rfl⟩ | exact Below.refl _ _
                any_goals
                  revert hK
                  intro hK
                  go_simp
                  refine hK _ ?_
                  clear hK K
              refine exV_exg (v := .int .i64 ((k : Int) + 1)) (fun W hC => ?_) (fun K hK => ?_)
              · refine relOp_on rfl rfl ?_
                have s1 := HCx.out W hC
                have s2 := HI.out W hC
                go_simp
                exact ⟨Below.refl _ _, by rw [IntKind.wrap_i64]; omega⟩
              revert hK
              intro hK
              go_simp
              refine hK _ ?_
              clear hK K
              iterate 4
                apply exV_exg ?_ (fun K hK => ?_)
                any_goals
                  intro W hC
                  first | exact relOp_off rfl rfl rfl rfl | exact relOp_none rfl rfl rfl | skip
                  all_goals
                    refine relOp_on rfl rfl ?_
                    have s1 := HCx.out W hC
                    have s2 := HI.out W hC
                    go_simp
                    all_goals first | exact ⟨Below.refl _ _, rfl⟩ | exact Below.refl _ _
                any_goals
                  revert hK
                  intro hK
                  go_simp
                  refine hK _ ?_
                  clear hK K
              refine exV_exg (v := .bool false) (fun W hC => ?_) (fun K hK => ?_)
              · refine relOp_on rfl rfl ?_
                have s1 := HCx.out W hC
                have s2 := HI.out W hC
                go_simp
                first | exact ⟨Below.refl _ _, rfl⟩ | exact Below.refl _ _
              revert hK
              intro hK
              go_simp
              refine hK _ ?_
              clear hK K
              apply exV_ex rfl ?_ (fun K hK => ?_)
              any_goals
                intro W hC
                have s1 := HCx.out W hC
                have s2 := HI.out W hC
                go_simp
                all_goals first | exact ⟨Below.refl _ _, rfl⟩ | exact Below.refl _ _
              any_goals
                revert hK
                intro hK
                go_simp
                refine hK _ ?_
                clear hK K
              refine exV_end fun W hC => (wpList_nil ?_)
              have a0 := HC0.out _ hC
              have HW8 := Lib.hid hC
              clear hC HW5 HCx HC0 HI
              by_cases hk0 : k = 0
              · subst hk0
                go_wp2_with fail
                go_roundw
                case rel =>
                  refine ⟨1, _, by omega, by go_num, rfl, Lib.hid ?_, ?_, HA2, HE2, HW8⟩
                  · rw [HMp.out]
                    simp [zpT_one, ba_cat]
                  · have z1 : (⟨#[90, 111, 110, 101, 32]⟩ : ByteArray).size = 5 := rfl
                    have z2 : (⟨#[32]⟩ : ByteArray).size = 1 := rfl
                    have z3 : (⟨#[10]⟩ : ByteArray).size = 1 := rfl
                    have z4 : (⟨#[9]⟩ : ByteArray).size = 1 := rfl
                    simp only [ByteArray.size_append, z1, z2, z3, z4]
                    omega
                case measure => simp [intOf]; omega
              · have hkb : ((k : Int) == 0) = false := by rw [beq_eq_false_iff_ne]; omega
                go_wp2_with fail
                go_roundw
                case rel =>
                  refine ⟨k + 1, _, by omega, by go_num, rfl, Lib.hid ?_, ?_, HA2, HE2, HW8⟩
                  · rw [HMp.out, zpT_snoc _ _ _ (by intro h; have := congrArg List.length h; rw [List.length_map, List.length_take, List.length_nil] at this; omega), ← HT.out]
                    simp [ba_cat]
                  · have z1 : (⟨#[90, 111, 110, 101, 32]⟩ : ByteArray).size = 5 := rfl
                    have z2 : (⟨#[32]⟩ : ByteArray).size = 1 := rfl
                    have z3 : (⟨#[10]⟩ : ByteArray).size = 1 := rfl
                    have z4 : (⟨#[9]⟩ : ByteArray).size = 1 := rfl
                    simp only [ByteArray.size_append, z1, z2, z3, z4]
                    omega
                case measure => simp [intOf]; omega
            · have HF := Lib.hid (HF4.out hxl)
              have hbn2 : (xi != decide ((k : Int) + 1 < (es.length : Int))) = true := by rw [hlI, bne_iff_ne]; exact hxl
              clear HF4 HE1 HT HMp HA2
              go_wp2_with (first | (refine wpList_load_arr rfl 55 (.tmp 29) rfl b (o + k * 13) rfl C _ HC.out Tryz.underlying55 rfl hTi ?_) | fail)
              refine HNq.out.mono ?_
              rintro e w5 ⟨rfl, hb5⟩
              have HW5 := Lib.hid (show ZSt w0 w5 from Below.trans HW.out (hb5.mono (Below.size HW.out)))
              clear hb5 HN HNq HW HC a0 a1
              have HCx := Lib.hid (show ∀ W, ZSt w0 W → W.cell? ⟨w.heap.size, 1, none⟩ = some (.slice (some ⟨b, o, none⟩) es.length c) from fun W hW => (Below.cell hW (p := ⟨w.heap.size, 1, none⟩) hg).trans (HB.out.1.cell_ rfl))
              go_upto_region 8 with fail
              refine wp_region_vals 18 (fun W => ZSt w0 W) (by kernel_rfl) (by kernel_rfl) rfl (Below.drew HW5.out) (fun W W' h hb => Below.trans h (hb.mono (Below.size h))) ?_
              iterate 3
                apply exV_ex rfl ?_ (fun K hK => ?_)
                any_goals
                  intro W hC
                  have s1 := HCx.out W hC
                  have s2 := HI.out W hC
                  go_simp
                  all_goals first | exact ⟨Below.refl _ _, rfl⟩ | exact Below.refl _ _
                any_goals
                  revert hK
                  intro hK
                  go_simp
                  refine hK _ ?_
                  clear hK K
              iterate 8
                apply exV_exg ?_ (fun K hK => ?_)
                any_goals
                  intro W hC
                  first | exact relOp_off rfl rfl rfl rfl | exact relOp_none rfl rfl rfl | skip
                  all_goals
                    refine relOp_on rfl rfl ?_
                    have s1 := HCx.out W hC
                    have s2 := HI.out W hC
                    go_simp
                    all_goals first | exact ⟨Below.refl _ _, rfl⟩ | exact Below.refl _ _
                any_goals
                  revert hK
                  intro hK
                  go_simp
                  refine hK _ ?_
                  clear hK K
              refine exV_exg (v := .int .i64 ((k : Int) + 1)) (fun W hC => ?_) (fun K hK => ?_)
              · refine relOp_on rfl rfl ?_
                have s1 := HCx.out W hC
                have s2 := HI.out W hC
                go_simp
                exact ⟨Below.refl _ _, by rw [IntKind.wrap_i64]; omega⟩
              revert hK
              intro hK
              go_simp
              refine hK _ ?_
              clear hK K
              iterate 4
                apply exV_exg ?_ (fun K hK => ?_)
                any_goals
                  intro W hC
                  first | exact relOp_off rfl rfl rfl rfl | exact relOp_none rfl rfl rfl | skip
                  all_goals
                    refine relOp_on rfl rfl ?_
                    have s1 := HCx.out W hC
                    have s2 := HI.out W hC
                    go_simp
                    all_goals first | exact ⟨Below.refl _ _, rfl⟩ | exact Below.refl _ _
                any_goals
                  revert hK
                  intro hK
                  go_simp
                  refine hK _ ?_
                  clear hK K
              refine exV_exg (v := .bool true) (fun W hC => ?_) (fun K hK => ?_)
              · refine relOp_on rfl rfl ?_
                have s1 := HCx.out W hC
                have s2 := HI.out W hC
                go_simp
                first | exact ⟨Below.refl _ _, rfl⟩ | exact Below.refl _ _
              revert hK
              intro hK
              go_simp
              refine hK _ ?_
              clear hK K
              apply exV_ex rfl ?_ (fun K hK => ?_)
              any_goals
                intro W hC
                have s1 := HCx.out W hC
                have s2 := HI.out W hC
                go_simp
                all_goals first | exact ⟨Below.refl _ _, rfl⟩ | exact Below.refl _ _
              any_goals
                revert hK
                intro hK
                go_simp
                refine hK _ ?_
                clear hK K
              refine exV_end fun W hC => (wpList_nil ?_)
              go_wp2_with fail
              go_ret2
              exact ⟨by rw [HF.out]; rfl, HB.out.2.trans (Below.mono hC (Nat.le_of_lt hg))⟩
        · obtain rfl : k = es.length := by omega
          have hd : decide ((es.length : Int) < (es.length : Int)) = false := by simp
          have HF := Lib.hid (show R = (T.data.toList, true) from by
            have h1 := HA.out
            have h2 := HT.out
            rw [List.take_length] at h1 h2
            rw [HY1.out h1 HE.out, h2])
          clear HA HE HT HR HP HN3 HN4 HY1 hlt hk
          go_wp2_with fail
          go_ret2
          exact ⟨by rw [HF.out]; simp, HB.out.2.trans (Below.mono HW.out (Nat.le_of_lt hg))⟩
end Go.Proofs.YtmcgbjjcpcgcfaaGreatDoor
