/-
  printer.many and printer.zone: what each call returns.
  printer.zone: what the call returns.
  printer.Print: what the call returns.
-/
import Derived.Test.YtmcgbjjcpcgcfaaGreatDoorPLink
import Derived.Test.YtmcgbjjcpcgcfaaGreatDoorEraParse
import Derived.Test.YtmcgbjjcpcgcfaaGreatDoorRuleAll
import Derived.Shelf.Strings.OnBuilder
set_option linter.unusedVariables false
namespace Go.Proofs.YtmcgbjjcpcgcfaaGreatDoor
open Go.RowKit Go.Shelf

/-- a zone and the slice value of its eras -/
def encZ (q : ZoneP × Value) : Array Value := #[.string ⟨q.1.name.toArray⟩, q.2]
def encS (s : List UInt8) : Array Value := #[.string ⟨s.toArray⟩]
def SrcIs (w : World) (n₀ : Nat) (r z l h : Value) (zs : List (ZoneP × Value)) (s : SourceP) : Prop :=
  RowsAt w n₀ 11 RuleP.cells r s.rules ∧ RowsAt w n₀ 2 encZ z zs ∧ zs.map (·.1) = s.zones ∧ (∀ q ∈ zs, RowsAt w n₀ 13 EraP.cells q.2 q.1.eras) ∧ RowsAt w n₀ 2 LinkP.cells l s.links ∧ RowsAt w n₀ 1 encS h s.shifts
theorem SrcIs.below {w W : World} {n₀ : Nat} {r z l h : Value} {zs : List (ZoneP × Value)} {s : SourceP} (k : SrcIs w n₀ r z l h zs s) (hb : Below n₀ w W) : SrcIs W n₀ r z l h zs s :=
  ⟨k.1.below hb, k.2.1.below hb, k.2.2.1, fun q hq => (k.2.2.2.1 q hq).below hb, k.2.2.2.2.1.below hb, k.2.2.2.2.2.below hb⟩
theorem RowsAt.mono {α : Type} {w : World} {n₀ n₁ k : Nat} {enc : α → Array Value} {sl : Value} {l : List α} (h : RowsAt w n₀ k enc sl l) (hn : n₀ ≤ n₁) : RowsAt w n₁ k enc sl l := by
  obtain ⟨p, c, e, h2⟩ := h
  refine ⟨p, c, e, fun h0 => ?_⟩
  obtain ⟨b, o, e2, hlt, h3⟩ := h2 h0
  exact ⟨b, o, e2, Nat.lt_of_lt_of_le hlt hn, h3⟩

set_option maxRecDepth 100000 in
theorem many1_any (s : ByteArray) (p : Option Addr) (n c : Nat) (w : World) :
    Calls Tryz.prog 72 #[.agg #[.string s, .slice p n c]] w fun e w' => e = .returned (.bool (decide (60 < n))) ∧ Below w.heap.size w w' := by
  have hb : Below w.heap.size w (w.alloc (.cells #[.string s, .slice p n c] 50)) := (Below.refl _ _).alloc (Nat.le_refl _) _
  rcases (by omega : 60 < n ∨ ¬ 60 < n) with h | h
  · have hi : 60 < (n : Int) := by omega
    have hd : decide (60 < n) = true := decide_eq_true h
    rw [hd]
    clear hd
    go_enter Tryz.func72, Tryz.ntmps72
    go_wp2_with fail
    go_ret
    exact ⟨rfl, hb⟩
  · have hi : ¬ 60 < (n : Int) := by omega
    have hd : decide (60 < n) = false := decide_eq_false h
    rw [hd]
    clear hd
    go_enter Tryz.func72, Tryz.ntmps72
    go_wp2_with fail
    go_ret
    exact ⟨rfl, hb⟩

def longB (z : ZoneP) : Bool := decide (60 < z.eras.length)
set_option maxRecDepth 100000 in
set_option maxHeartbeats 1000000 in
theorem zindex_any (zv : Value) (zs : List (ZoneP × Value)) (w : World) (hz : RowsAt w w.heap.size 2 encZ zv zs) (hv : ∀ q ∈ zs, ∃ p c, q.2 = .slice p q.1.eras.length c) (hl : zs.length ≤ 1048576) :
    Calls Tryz.prog 106 #[zv, .func (.func 72) #[] #[]] w fun e w' => (∃ x : Int, e = .returned (.int .i64 x) ∧ decide (0 ≤ x) = zs.any fun q => longB q.1) ∧ Below w.heap.size w w' := by
  obtain ⟨p, c, rfl, hrow⟩ := hz
  have HR := Lib.hid hrow
  have HV := Lib.hid hv
  have hTi : (Tryz.prog.info? 50).map (·.size) = some 2 := by kernel_rfl
  clear hrow hv
  go_enter Tryz.func106, Tryz.ntmps106
  go_wp2_with fail
  go_loopw [5, 8] (fun _ i wr => ∃ k : Nat, k ≤ zs.length ∧ i = .int .i64 (k : Int) ∧ Hid ((zs.take k).any (fun q => longB q.1) = false) ∧ Below w.heap.size w wr) (fun _ i _ => zs.length - (intOf i).toNat)
  case atStart => exact ⟨0, Nat.zero_le _, rfl, Lib.hid (by simp), Below.refl _ _⟩
  case round =>
    obtain ⟨k, hk, rfl, HA, hB⟩ := hrel
    by_cases hlt : k < zs.length
    · obtain ⟨x, hx⟩ : ∃ x, zs[k]? = some x := ⟨_, List.getElem?_eq_getElem hlt⟩
      have hxm : x ∈ zs := List.mem_of_getElem? hx
      obtain ⟨b, o, rfl, hbn, hrow⟩ := HR.out (by intro h; rw [h] at hlt; simp at hlt)
      have HC := Lib.hid (show wr.rangeAt b (o + k * 2) (encZ x).toList from fun j v hv => (hB.cell (p := ⟨b, o + k * 2 + j, none⟩) hbn).trans (hrow k x hx j v hv))
      obtain ⟨p2, c2, hv2⟩ := HV.out x hxm
      have hd : decide ((k : Int) < (zs.length : Int)) = true := by simp; omega
      have hT : (zs.take (k + 1)).any (fun q => longB q.1) = longB x.1 := by
        rw [List.take_add_one, hx, List.any_append, HA.out]
        simp
      have hyes : longB x.1 = true → zs.any (fun q => longB q.1) = true := fun h => List.any_eq_true.2 ⟨x, hxm, h⟩
      have HM := Lib.hid (many1_any ⟨x.1.name.toArray⟩ p2 x.1.eras.length c2 wr)
      rw [show decide (60 < x.1.eras.length) = longB x.1 from rfl, ← hv2] at HM
      rw [show (#[.string ⟨x.1.name.toArray⟩, x.2] : Array Value) = encZ x from rfl] at HM
      obtain ⟨r, hr⟩ : ∃ r, longB x.1 = r := ⟨_, rfl⟩
      rw [hr] at HM hT hyes
      have hTi2 : (Tryz.prog.info? 50).map (·.size) = some (encZ x).size := hTi
      generalize encZ x = C at *
      have HT := Lib.hid hT
      have HY := Lib.hid hyes
      have HB := Lib.hid hB
      clear hrow hx hxm hB hT hyes hr hv2 HA HR HV hTi
      cases r with
      | false =>
        go_wp2_with (first | (refine wpList_load_arr rfl 50 (.tmp 14) rfl b (o + k * 2) rfl C _ HC.out Tryz.underlying50 rfl hTi2 ?_) | fail)
        refine HM.out.mono ?_
        rintro e w1 ⟨rfl, hb1⟩
        have hB1 := HB.out.trans (hb1.mono HB.out.size)
        go_wp2_with fail
        go_roundw
        case rel => exact ⟨k + 1, by omega, by go_num, HT, hB1⟩
        case measure => simp [intOf]; omega
      | true =>
        go_wp2_with (first | (refine wpList_load_arr rfl 50 (.tmp 14) rfl b (o + k * 2) rfl C _ HC.out Tryz.underlying50 rfl hTi2 ?_) | fail)
        refine HM.out.mono ?_
        rintro e w1 ⟨rfl, hb1⟩
        have hB1 := HB.out.trans (hb1.mono HB.out.size)
        go_wp2_with fail
        go_ret
        exact ⟨⟨_, rfl, by rw [HY.out trivial]; simp⟩, hB1⟩
    · obtain rfl : k = zs.length := by omega
      have hd : decide ((zs.length : Int) < (zs.length : Int)) = false := by simp
      have HT := Lib.hid (show zs.any (fun q => longB q.1) = false from by have := HA.out; rwa [List.take_length] at this)
      clear HA hlt hk HR HV
      go_wp2_with fail
      go_ret
      exact ⟨⟨_, rfl, by rw [HT.out]; rfl⟩, hB⟩

set_option maxRecDepth 100000 in
set_option maxHeartbeats 1000000 in
theorem zcont_any (zv : Value) (zs : List (ZoneP × Value)) (w : World) (hz : RowsAt w w.heap.size 2 encZ zv zs) (hv : ∀ q ∈ zs, ∃ p c, q.2 = .slice p q.1.eras.length c) (hl : zs.length ≤ 1048576) :
    Calls Tryz.prog 71 #[zv, .func (.func 72) #[] #[]] w fun e w' => e = .returned (.bool (zs.any fun q => longB q.1)) ∧ Below w.heap.size w w' := by
  have HN := Lib.hid (zindex_any zv zs w hz hv hl)
  clear hz hv
  go_enter Tryz.func71, Tryz.ntmps71
  go_wp2_with fail
  refine HN.out.mono ?_
  rintro e w1 ⟨⟨x, rfl, hx⟩, hb1⟩
  have HX := Lib.hid hx
  clear hx
  go_wp2_with fail
  go_ret
  exact ⟨by rw [← HX.out]; rfl, hb1⟩

theorem RowsAt.slice {α : Type} {w : World} {n₀ k : Nat} {enc : α → Array Value} {sl : Value} {l : List α} (h : RowsAt w n₀ k enc sl l) : ∃ p c, sl = .slice p l.length c := by
  obtain ⟨p, c, e, _⟩ := h
  exact ⟨p, c, e⟩

set_option maxRecDepth 100000 in
set_option maxHeartbeats 1000000 in
theorem many_any (r z l h : Value) (zs : List (ZoneP × Value)) (s : SourceP) (w : World) (hs : SrcIs w w.heap.size r z l h zs s) :
    Calls Tryz.prog 25 #[.agg #[r, z, l, h]] w fun e w' => e = .returned (.bool (manyB s)) ∧ Below w.heap.size w w' := by
  have hb : Below w.heap.size w (w.alloc (.cells #[r, z, l, h] 27)) := (Below.refl _ _).alloc (Nat.le_refl _) _
  have HZ := Lib.hid (show zs.length ≤ 500 → Calls Tryz.prog 71 #[z, .func (.func 72) #[] #[]] (w.alloc (.cells #[r, z, l, h] 27)) fun e w' => e = .returned (.bool (s.zones.any longB)) ∧ Below (w.alloc (.cells #[r, z, l, h] 27)).heap.size (w.alloc (.cells #[r, z, l, h] 27)) w' from fun hle => by
    have := zcont_any z zs (w.alloc (.cells #[r, z, l, h] 27)) ((hs.2.1.below hb).mono (by simp)) (fun q hq => (hs.2.2.2.1 q hq).slice) (by omega)
    rwa [show (zs.any fun q => longB q.1) = s.zones.any longB by rw [← hs.2.2.1, List.any_map]; rfl] at this)
  have hzl : zs.length = s.zones.length := by rw [← hs.2.2.1]; simp
  have hM : manyB s = (decide (2000 < s.rules.length) || decide (500 < zs.length) || decide (1000 < s.links.length) || decide (2000 < s.shifts.length) || s.zones.any longB) := by rw [hzl]; rfl
  obtain ⟨p1, c1, rfl⟩ := hs.1.slice
  obtain ⟨p2, c2, rfl⟩ := hs.2.1.slice
  obtain ⟨p3, c3, rfl⟩ := hs.2.2.2.2.1.slice
  obtain ⟨p4, c4, rfl⟩ := hs.2.2.2.2.2.slice
  have HM := Lib.hid hM
  have HB := Lib.hid hb
  clear hs hM hb hzl
  generalize s.rules.length = n1 at *
  generalize zs.length = n2 at *
  generalize s.links.length = n3 at *
  generalize s.shifts.length = n4 at *
  generalize s.zones.any longB = r5 at *
  by_cases h1 : 2000 < n1
  · have g1 : 2000 < (n1 : Int) := by omega
    have HF := Lib.hid (show manyB s = true by rw [HM.out, decide_eq_true h1]; rfl)
    clear HM HZ h1
    go_enter Tryz.func25, Tryz.ntmps25
    go_wp2_with fail
    go_ret
    exact ⟨by rw [HF.out]; rfl, HB.out⟩
  have g1 : ¬ 2000 < (n1 : Int) := by omega
  by_cases h2 : 500 < n2
  · have g2 : 500 < (n2 : Int) := by omega
    have HF := Lib.hid (show manyB s = true by rw [HM.out, decide_eq_true h2]; simp)
    clear HM HZ h1 h2
    go_enter Tryz.func25, Tryz.ntmps25
    go_wp2_with fail
    go_ret
    exact ⟨by rw [HF.out]; rfl, HB.out⟩
  have g2 : ¬ 500 < (n2 : Int) := by omega
  by_cases h3 : 1000 < n3
  · have g3 : 1000 < (n3 : Int) := by omega
    have HF := Lib.hid (show manyB s = true by rw [HM.out, decide_eq_true h3]; simp)
    clear HM HZ h1 h2 h3
    go_enter Tryz.func25, Tryz.ntmps25
    go_wp2_with fail
    go_ret
    exact ⟨by rw [HF.out]; rfl, HB.out⟩
  have g3 : ¬ 1000 < (n3 : Int) := by omega
  by_cases h4 : 2000 < n4
  · have g4 : 2000 < (n4 : Int) := by omega
    have HF := Lib.hid (show manyB s = true by rw [HM.out, decide_eq_true h4]; simp)
    clear HM HZ h1 h2 h3 h4
    go_enter Tryz.func25, Tryz.ntmps25
    go_wp2_with fail
    go_ret
    exact ⟨by rw [HF.out]; rfl, HB.out⟩
  have g4 : ¬ 2000 < (n4 : Int) := by omega
  have HF := Lib.hid (show manyB s = r5 by rw [HM.out, decide_eq_false h1, decide_eq_false h2, decide_eq_false h3, decide_eq_false h4]; rfl)
  have HZ2 := Lib.hid (HZ.out (by omega))
  clear HM HZ h1 h2 h3 h4
  go_enter Tryz.func25, Tryz.ntmps25
  go_wp2_with fail
  refine HZ2.out.mono ?_
  rintro e w1 ⟨rfl, hb1⟩
  have HB1 := Lib.hid (HB.out.trans (hb1.mono HB.out.size))
  clear hb1
  go_wp2_with fail
  go_ret
  exact ⟨by rw [HF.out]; rfl, HB1.out⟩


theorem endsB_iff : ∀ l : List EraP, endsB l = true ↔ ∀ (j : Nat) (e : EraP), l[j]? = some e → e.til.is = decide (j + 1 ≠ l.length)
  | [] => by simp [endsB]
  | [e] => by
    simp only [endsB, List.length_singleton]
    refine ⟨fun h j x hx => ?_, fun h => ?_⟩
    · match j, hx with
      | 0, hx => cases hx; simpa using h
      | j + 1, hx => simp at hx
    · have := h 0 e rfl
      simpa using this
  | e :: f :: l => by
    have ih := endsB_iff (f :: l)
    simp only [endsB, Bool.and_eq_true]
    rw [ih]
    refine ⟨fun ⟨h1, h2⟩ j x hx => ?_, fun h => ⟨?_, fun j x hx => ?_⟩⟩
    · match j, hx with
      | 0, hx => cases hx; simp [h1]
      | j + 1, hx =>
        have := h2 j x (by simpa using hx)
        rw [this]
        simp only [List.length_cons]
        exact decide_eq_decide.2 (by omega)
    · have := h 0 e rfl
      simpa using this
    · have := h (j + 1) x (by simpa using hx)
      rw [this]
      simp only [List.length_cons]
      exact decide_eq_decide.2 (by omega)
theorem joinB_eq (sep : List UInt8) : ∀ l : List (List UInt8), joinB sep l = Lib.join l sep
  | [] => rfl
  | [a] => by rw [Lib.join_one]; rfl
  | a :: b :: l => by
    show a ++ sep ++ joinB sep (b :: l) = _
    rw [joinB_eq sep (b :: l), Lib.join_cons, Lib.join_cons]
    simp [Lib.joinTail]
theorem join_le (sep : List UInt8) (m : Nat) : ∀ l : List (List UInt8), (∀ a ∈ l, a.length ≤ m) → (Lib.join l sep).length ≤ l.length * (m + sep.length) := fun l h => by
  cases l with
  | nil => simp [Lib.join_nil]
  | cons a l =>
    rw [Lib.join_cons, List.length_append, List.length_cons]
    have h1 := h a (List.mem_cons_self ..)
    have h2 : ∀ l : List (List UInt8), (∀ a ∈ l, a.length ≤ m) → (Lib.joinTail sep l).length ≤ l.length * (m + sep.length) := fun l => by
      induction l with
      | nil => intro _; simp [Lib.joinTail]
      | cons b l ih =>
        intro hl
        have := ih fun x hx => hl x (List.mem_cons_of_mem _ hx)
        have hb := hl b (List.mem_cons_self ..)
        simp only [Lib.joinTail, List.map_cons, List.flatten_cons, List.length_append, List.length_cons] at this ⊢
        rw [Nat.succ_mul]
        omega
    have := h2 l fun x hx => h x (List.mem_cons_of_mem _ hx)
    rw [Nat.succ_mul]
    omega
def EraSz (e : EraP) : Prop := e.set.length ≤ 1048576 ∧ e.fmt.length ≤ 1048576
def ZoneSz (z : ZoneP) : Prop := z.name.length ≤ 1048576 ∧ ∀ e ∈ z.eras, EraSz e
theorem eraOk_cells (e : EraP) : e.cells.size = 13 ∧ e.cells.all (·.oneCell') = true := ⟨rfl, by simp [EraP.cells, Value.oneCell']⟩
theorem eraR_all (l : List EraP) : l.all (fun x => (eraPrintR x).2 == 0) = l.all eraOk := by
  congr 1
  funext x
  unfold eraPrintR
  split
  · rename_i h; rw [h]; rfl
  · rename_i h; rw [Bool.eq_false_iff.2 h]; rfl
theorem eraR_map {l : List EraP} (h : l.all eraOk = true) : (l.map fun x => (eraPrintR x).1) = l.map eraT := by
  refine List.map_congr_left fun x hx => ?_
  unfold eraPrintR
  rw [if_pos (List.all_eq_true.1 h x hx)]

set_option maxRecDepth 100000 in
set_option maxHeartbeats 2000000 in
theorem pzone_any (z : ZoneP) (v : Value) (n₀ : Nat) (w : World) (hn : n₀ ≤ w.heap.size) (hv : RowsAt w n₀ 13 EraP.cells v z.eras) (hT : ETabs w) (hs : ZoneSz z) (h60 : z.eras.length ≤ 60) :
    Calls Tryz.prog 28 #[.agg (encZ (z, v))] w fun e w' => e = .returned (.tuple #[.string ⟨(zonePrintR z).1.toArray⟩, .int .i64 (zonePrintR z).2]) ∧ Below w.heap.size w w' := by
  have hb0 : Below w.heap.size w (w.alloc (.cells (encZ (z, v)) 50)) := (Below.refl _ _).alloc (Nat.le_refl _) _
  have HB0 := Lib.hid hb0
  have HN := Lib.hid (zone_any ⟨z.name.toArray⟩ (w.alloc (.cells (encZ (z, v)) 50)) hs.1)
  have HL := Lib.hid (fun W (hW : Below w.heap.size w W) => linesEra_any EraP.cells eraPrintR (fun x => (eraOk_cells x).1) (fun x => (eraOk_cells x).2) z.eras v (.slice none 0 0) [] W.heap.size W (Nat.le_refl _) (((hv.mono hn).below hW).mono hW.size) (World.ownsRow_nil ..) (by omega) (by decide) (fun x hx W' hW' => eprint_any x W' (hT.below (hW.trans (hW'.mono hW.size))) (hs.2 x hx).1 (hs.2 x hx).2))
  have HV := Lib.hid hv
  have HE := Lib.hid (endsB_iff z.eras)
  have hZ : ∀ b1 b2 b3 b4 : Bool, zoneB z.name = b1 → z.eras.isEmpty = b2 → endsB z.eras = b3 → z.eras.all eraOk = b4 → zoneOk z = (b1 && !b2 && b3 && b4) := fun b1 b2 b3 b4 e1 e2 e3 e4 => by unfold zoneOk; rw [e1, e2, e3, e4]
  have HZ := Lib.hid hZ
  obtain ⟨p, c, rfl⟩ := hv.slice
  have hno : ∀ b, zoneOk z = b → b = false → zonePrintR z = ([], 2) := fun b h hb => by unfold zonePrintR; rw [h, hb]; rfl
  have HNO := Lib.hid hno
  clear hv hT hs hb0 hZ hno
  rw [show (encZ (z, Value.slice p z.eras.length c)) = #[.string ⟨z.name.toArray⟩, .slice p z.eras.length c] from rfl] at *
  obtain ⟨b1, hb1⟩ : ∃ b, zoneB z.name = b := ⟨_, rfl⟩
  rw [show zoneB (⟨z.name.toArray⟩ : ByteArray).data.toList = b1 from hb1] at HN
  obtain ⟨sn, hsn⟩ : ∃ sn : ByteArray, (⟨z.name.toArray⟩ : ByteArray) = sn := ⟨_, rfl⟩
  rw [hsn] at HN HB0 ⊢
  have HSN := Lib.hid hsn
  have HB1 := Lib.hid hb1
  clear hsn hb1
  cases b1 with
  | false =>
    rw [HNO.out _ (HZ.out _ _ _ _ HB1.out rfl rfl rfl) rfl]
    clear HL HV HE
    go_enter Tryz.func28, Tryz.ntmps28
    go_wp2_with fail
    refine HN.out.mono ?_
    rintro e w1 ⟨rfl, hb1⟩
    have HBB := Lib.hid (HB0.out.trans (hb1.mono HB0.out.size))
    clear hb1
    go_wp2_with fail
    go_ret2
    exact ⟨rfl, HBB.out⟩
  | true =>
    have HBk := Lib.hid (show Blk (w.alloc (.cells #[.string sn, .slice p z.eras.length c] 50)) w.heap.size 50 #[.string sn, .slice p z.eras.length c] from Blk.new' _ _ _ rfl)
    by_cases he : z.eras = []
    · rw [HNO.out _ (HZ.out _ _ _ _ HB1.out (by rw [List.isEmpty_iff]; exact he) rfl rfl) rfl]
      have h0 : z.eras.length = 0 := by rw [he]; rfl
      rw [h0] at HN HB0 HBk ⊢
      clear HL HV HE he h0
      go_enter Tryz.func28, Tryz.ntmps28
      go_wp2_with fail
      refine HN.out.mono ?_
      rintro e w1 ⟨rfl, hb1⟩
      have k1 := HBk.out.below hb1 HBk.out.lt
      have c1 := k1.cell_ (i := 1) rfl
      have HBB := Lib.hid (HB0.out.trans (hb1.mono HB0.out.size))
      clear hb1 k1
      go_wp2_with fail
      go_ret2
      exact ⟨rfl, HBB.out⟩
    have h0 : 0 < z.eras.length := List.length_pos_iff.2 he
    have h0I : ((z.eras.length : Int) == 0) = false := by rw [beq_eq_false_iff_ne]; omega
    have HE0 := Lib.hid (show z.eras.isEmpty = false from by cases h : z.eras with
      | nil => exact absurd h he
      | cons a l => rfl)
    have hTi : (Tryz.prog.info? 55).map (·.size) = some 13 := by kernel_rfl
    clear he
    go_enter Tryz.func28, Tryz.ntmps28
    go_wp2_with fail
    refine HN.out.mono ?_
    rintro e w1 ⟨rfl, hb1⟩
    have k1 := HBk.out.below hb1 HBk.out.lt
    have c1 := k1.cell_ (i := 1) rfl
    have HBB := Lib.hid (And.intro k1 (HB0.out.trans (hb1.mono HB0.out.size)))
    clear hb1 k1 HN HBk HB0
    go_wp2_with fail
    clear c1 h0I
    go_loopw [5, 6, 26] (fun _ _ i wr => ∃ k : Nat, k ≤ z.eras.length ∧ i = .int .i64 (k : Int) ∧ Hid (∀ (j : Nat) (e : EraP), j < k → z.eras[j]? = some e → e.til.is = decide (j + 1 ≠ z.eras.length)) ∧ Hid (Blk wr w.heap.size 50 #[.string sn, .slice p z.eras.length c] ∧ Below w.heap.size w wr)) (fun _ _ i _ => z.eras.length - (intOf i).toNat)
    case atStart => exact ⟨0, Nat.zero_le _, rfl, Lib.hid (fun j e hj => absurd hj (by omega)), HBB⟩
    case round =>
      clear HBB
      obtain ⟨k, hk, rfl, HA, HB⟩ := hrel
      by_cases hlt : k < z.eras.length
      · obtain ⟨x, hx⟩ : ∃ x, z.eras[k]? = some x := ⟨_, List.getElem?_eq_getElem hlt⟩
        obtain ⟨p2, c2, hpe, hrow2⟩ := HV.out
        obtain ⟨b, o, hpp, hbn, hrow⟩ := hrow2 (by intro h; rw [h] at hlt; simp at hlt)
        have hp : p = some ⟨b, o, none⟩ := by injection hpe with h1 h2 h3; rw [h1]; exact hpp
        subst hp
        have HC := Lib.hid (show wr.rangeAt b (o + k * 13) x.cells.toList from fun j v hv => (HB.out.2.cell (p := ⟨b, o + k * 13 + j, none⟩) (Nat.lt_of_lt_of_le hbn hn)).trans (hrow k x hx j v hv))
        have hTi2 : (Tryz.prog.info? 55).map (·.size) = some x.cells.size := hTi
        have h1C := (eraOk_cells x).2
        have hsC := (eraOk_cells x).1
        have h5 : x.cells[5]? = some (.bool x.til.is) := rfl
        have hd : decide ((k : Int) < (z.eras.length : Int)) = true := by simp; omega
        generalize x.cells = C at *
        have HZr := Lib.hid (show Blk (wr.alloc (.cells #[.int .i64 0, .int .i64 0, .int .i64 0, .string ⟨#[]⟩, .string ⟨#[]⟩, .bool false, .int .i64 0, .int .i64 0, .int .i64 0, .int .i64 0, .int .i64 0, .int .i64 0, .int .i64 0] 55)) wr.heap.size 55 #[.int .i64 0, .int .i64 0, .int .i64 0, .string ⟨#[]⟩, .string ⟨#[]⟩, .bool false, .int .i64 0, .int .i64 0, .int .i64 0, .int .i64 0, .int .i64 0, .int .i64 0, .int .i64 0] from Blk.new' _ _ _ rfl)
        have HS4 := Lib.hid (HZr.out.setAll C (by rw [hsC]; rfl))
        have hthere : (wr.alloc (.cells #[.int .i64 0, .int .i64 0, .int .i64 0, .string ⟨#[]⟩, .string ⟨#[]⟩, .bool false, .int .i64 0, .int .i64 0, .int .i64 0, .int .i64 0, .int .i64 0, .int .i64 0, .int .i64 0] 55)).there wr.heap.size 0 C.size := HZr.out.there (by rw [hsC]; exact Nat.le_refl _)
        have hz4 : Below wr.heap.size wr ((wr.alloc (.cells #[.int .i64 0, .int .i64 0, .int .i64 0, .string ⟨#[]⟩, .string ⟨#[]⟩, .bool false, .int .i64 0, .int .i64 0, .int .i64 0, .int .i64 0, .int .i64 0, .int .i64 0, .int .i64 0] 55)).setCells wr.heap.size 0 C.toList) := below_sets (Nat.le_refl _) _ _ _ ((Below.refl _ _).alloc (Nat.le_refl _) _)
        have HB4 := Lib.hid (show Blk ((wr.alloc (.cells #[.int .i64 0, .int .i64 0, .int .i64 0, .string ⟨#[]⟩, .string ⟨#[]⟩, .bool false, .int .i64 0, .int .i64 0, .int .i64 0, .int .i64 0, .int .i64 0, .int .i64 0, .int .i64 0] 55)).setCells wr.heap.size 0 C.toList) w.heap.size 50 #[.string sn, .slice (some ⟨b, o, none⟩) z.eras.length c] ∧ Below w.heap.size w ((wr.alloc (.cells #[.int .i64 0, .int .i64 0, .int .i64 0, .string ⟨#[]⟩, .string ⟨#[]⟩, .bool false, .int .i64 0, .int .i64 0, .int .i64 0, .int .i64 0, .int .i64 0, .int .i64 0, .int .i64 0] 55)).setCells wr.heap.size 0 C.toList) from ⟨HB.out.1.below hz4 HB.out.1.lt, HB.out.2.trans (hz4.mono HB.out.2.size)⟩)
        have c5 : ((wr.alloc (.cells #[.int .i64 0, .int .i64 0, .int .i64 0, .string ⟨#[]⟩, .string ⟨#[]⟩, .bool false, .int .i64 0, .int .i64 0, .int .i64 0, .int .i64 0, .int .i64 0, .int .i64 0, .int .i64 0] 55)).setCells wr.heap.size 0 C.toList).cell? ⟨wr.heap.size, 5, none⟩ = some (.bool x.til.is) := HS4.out.cell_ h5
        obtain ⟨is, his⟩ : ∃ is, x.til.is = is := ⟨_, rfl⟩
        rw [his] at c5
        have HX := Lib.hid hx
        have HIS := Lib.hid his
        have hbad : is = decide (k + 1 = z.eras.length) → endsB z.eras = false := fun h => by
          rw [Bool.eq_false_iff]
          intro h2
          have := (HE.out.1 h2) k x hx
          rw [his, h] at this
          by_cases h3 : k + 1 = z.eras.length <;> simp [h3] at this
        have HBAD := Lib.hid hbad
        clear hz4 hrow hrow2 hpe hpp HV HB HZr hx his hbad h5
        rcases (show (k + 1 = z.eras.length ∧ is = true) ∨ (k + 1 = z.eras.length ∧ is = false) ∨ (k + 1 ≠ z.eras.length ∧ is = true) ∨ (k + 1 ≠ z.eras.length ∧ is = false) from by
          by_cases h : k + 1 = z.eras.length <;> cases is <;> simp [h]) with ⟨hq, rfl⟩ | ⟨hq, rfl⟩ | ⟨hq, rfl⟩ | ⟨hq, rfl⟩
        · have hkl : ((k : Int) == (z.eras.length : Int) - 1) = true := by rw [beq_iff_eq]; omega
          have HF := Lib.hid (HNO.out _ (HZ.out _ _ _ _ HB1.out HE0.out (HBAD.out (by simp [hq])) rfl) rfl)
          clear HNO HZ HBAD HL HA HE
          go_wp2_with (first
            | (refine wpList_load_arr rfl 55 (.tmp 29) rfl b (o + k * 13) rfl C _ HC.out Tryz.underlying55 rfl hTi2 ?_)
            | (refine wpList_store_mid rfl 55 (.tmp 6) (.tmp 30) rfl wr.heap.size 0 C rfl rfl hthere hTi2 h1C ?_)
            | fail)
          go_ret2
          exact ⟨by rw [HF.out]; rfl, HB4.out.2⟩
        · have hkl : ((k : Int) == (z.eras.length : Int) - 1) = true := by rw [beq_iff_eq]; omega
          have HA2 := Lib.hid (show ∀ (j : Nat) (e : EraP), j < k + 1 → z.eras[j]? = some e → e.til.is = decide (j + 1 ≠ z.eras.length) from fun j e hj he => by
            by_cases h : j = k
            · subst h
              rw [HX.out] at he
              cases he
              rw [HIS.out]
              simp [hq]
            · exact HA.out j e (by omega) he)
          clear HNO HZ HBAD HL HA HE
          go_wp2_with (first
            | (refine wpList_load_arr rfl 55 (.tmp 29) rfl b (o + k * 13) rfl C _ HC.out Tryz.underlying55 rfl hTi2 ?_)
            | (refine wpList_store_mid rfl 55 (.tmp 6) (.tmp 30) rfl wr.heap.size 0 C rfl rfl hthere hTi2 h1C ?_)
            | fail)
          go_roundw
          case rel => exact ⟨k + 1, by omega, by go_num, HA2, HB4⟩
          case measure => simp [intOf]; omega
        · have hkl : ((k : Int) == (z.eras.length : Int) - 1) = false := by rw [beq_eq_false_iff_ne]; omega
          have HA2 := Lib.hid (show ∀ (j : Nat) (e : EraP), j < k + 1 → z.eras[j]? = some e → e.til.is = decide (j + 1 ≠ z.eras.length) from fun j e hj he => by
            by_cases h : j = k
            · subst h
              rw [HX.out] at he
              cases he
              rw [HIS.out]
              simp [hq]
            · exact HA.out j e (by omega) he)
          clear HNO HZ HBAD HL HA HE
          go_wp2_with (first
            | (refine wpList_load_arr rfl 55 (.tmp 29) rfl b (o + k * 13) rfl C _ HC.out Tryz.underlying55 rfl hTi2 ?_)
            | (refine wpList_store_mid rfl 55 (.tmp 6) (.tmp 30) rfl wr.heap.size 0 C rfl rfl hthere hTi2 h1C ?_)
            | fail)
          go_roundw
          case rel => exact ⟨k + 1, by omega, by go_num, HA2, HB4⟩
          case measure => simp [intOf]; omega
        · have hkl : ((k : Int) == (z.eras.length : Int) - 1) = false := by rw [beq_eq_false_iff_ne]; omega
          have HF := Lib.hid (HNO.out _ (HZ.out _ _ _ _ HB1.out HE0.out (HBAD.out (by simp [hq])) rfl) rfl)
          clear HNO HZ HBAD HL HA HE
          go_wp2_with (first
            | (refine wpList_load_arr rfl 55 (.tmp 29) rfl b (o + k * 13) rfl C _ HC.out Tryz.underlying55 rfl hTi2 ?_)
            | (refine wpList_store_mid rfl 55 (.tmp 6) (.tmp 30) rfl wr.heap.size 0 C rfl rfl hthere hTi2 h1C ?_)
            | fail)
          go_ret2
          exact ⟨by rw [HF.out]; rfl, HB4.out.2⟩
      · obtain rfl : k = z.eras.length := by omega
        have hd : decide ((z.eras.length : Int) < (z.eras.length : Int)) = false := by simp
        have HEN := Lib.hid (show endsB z.eras = true from HE.out.2 fun j e hj => HA.out j e (by
          rcases Nat.lt_or_ge j z.eras.length with h | h
          · exact h
          · rw [List.getElem?_eq_none h] at hj; cases hj) hj)
        have cz := HB.out.1.cell_ (i := 1) rfl
        have cn := HB.out.1.cell_ (i := 0) rfl
        clear HE HA hlt hk HV
        go_wp2_with fail
        refine (HL.out _ HB.out.2).mono ?_
        rintro e w3 ⟨hres, hb3⟩
        have HB3 := Lib.hid (show w3.cell? ⟨w.heap.size, 0, none⟩ = some (.string sn) ∧ Below w.heap.size w w3 from ⟨(hb3.cell (block_lt_of_cell cn)).trans cn, HB.out.2.trans (hb3.mono HB.out.2.size)⟩)
        rw [eraR_all] at hres
        rcases hres with ⟨hall, v', rfl, hown⟩ | ⟨hall, rfl⟩
        · rw [eraR_map hall] at hown
          have hown' : w3.ownsRow wr.heap.size 9 1 v' z.eras.length (strV (z.eras.map eraT)) := by simpa using hown
          obtain ⟨g, cap, rfl, hgb, hgl⟩ := hown'.form h0
          have hlt : g < w3.heap.size := (hown'.lt g rfl).2
          have hncap : z.eras.length ≤ cap := by
            rcases hown'.2 with ⟨h, _⟩ | ⟨g', cap', cur, h, _, _, hnc, _⟩
            · cases h
            · injection h with _ _ h3; rw [h3]; exact hnc
          have hrow := StrRow.own hown' hlt
          have hlen : ∀ a ∈ z.eras.map eraT, a.length ≤ 217 := fun a ha => by
            obtain ⟨e, he, rfl⟩ := List.mem_map.1 ha
            exact eraT_len ((eraOk_iff e).1 (List.all_eq_true.1 hall e he))
          have hJl := join_le [10, 9] 217 _ hlen
          rw [List.length_map] at hJl
          have hJ3 : (Lib.join (z.eras.map eraT) [10, 9]).length ≤ 100000 := by
            have : z.eras.length * (217 + [10, 9].length) ≤ 60 * 219 := Nat.mul_le_mul h60 (by decide)
            simp only [List.length_cons, List.length_nil] at this hJl
            omega
          have hzT : zonePrintR z = (zoneT z, 0) := by unfold zonePrintR; rw [HZ.out _ _ _ _ HB1.out HE0.out HEN.out hall]; rfl
          obtain ⟨jb, hjb⟩ : ∃ jb : ByteArray, (⟨(Lib.join (z.eras.map eraT) [10, 9]).toArray⟩ : ByteArray) = jb := ⟨_, rfl⟩
          have hjs : jb.size ≤ 100000 := by rw [← hjb]; simpa [ByteArray.size] using hJ3
          have hTx : (⟨(zonePrintR z).1.toArray⟩ : ByteArray) = ⟨#[90, 111, 110, 101, 32]⟩ ++ sn ++ ⟨#[32]⟩ ++ jb := by
            rw [hzT, ← HSN.out, ← hjb, ← joinB_eq]
            apply ByteArray.ext
            simp [ByteArray.data_append, zoneT]
          have hsn : sn.size ≤ 60 := by
            have h := HB1.out
            unfold zoneB at h
            rw [Bool.and_eq_true] at h
            rw [← HSN.out]
            exact of_decide_eq_true h.1
          have HJ := Lib.hid (show ∀ W, W.cell? ⟨w.heap.size, 0, none⟩ = some (.string sn) ∧ Below w3.heap.size w3 W → Calls Tryz.prog 58 #[.slice (some ⟨g, 0, none⟩) z.eras.length cap, .string ⟨#[10, 9]⟩] W fun e w' => e = .returned (.string jb) ∧ w'.cell? ⟨w.heap.size, 0, none⟩ = some (.string sn) ∧ Below w3.heap.size w3 w' from fun W hW => by
            have em : (((z.eras.map eraT).map fun l => (⟨l.toArray⟩ : ByteArray)).map (·.data.toList)) = z.eras.map eraT := by rw [List.map_map]; simp [Function.comp_def]
            have h := Any.strings_Join Tryz.lays156 Tryz.Builder_Extra_156 g 0 cap ((z.eras.map eraT).map fun l => ⟨l.toArray⟩) ⟨#[10, 9]⟩ W (fun j x hx => by
              rw [List.getElem?_map] at hx
              cases hj : (z.eras.map eraT)[j]? with
              | none => rw [hj] at hx; cases hx
              | some l => rw [hj] at hx; cases hx; exact (hrow.below hW.2).at_ j l hj) (Nat.lt_of_lt_of_le hlt hW.2.size) (by simp; omega) (by simpa using hncap) (by rw [em]; show (Lib.join (z.eras.map eraT) [10, 9]).length ≤ _; omega)
            rw [em, List.length_map, List.length_map, show (⟨#[10, 9]⟩ : ByteArray).data.toList = [10, 9] from rfl, hjb] at h
            exact h.mono fun e w' ⟨he, hb⟩ => ⟨he, (hb.cell (block_lt_of_cell hW.1)).trans hW.1, hW.2.trans (hb.mono hW.2.size)⟩)
          have HTx := Lib.hid hTx
          have HZ2 := Lib.hid (show (zonePrintR z).2 = 0 by rw [hzT])
          have hB33 : Below w3.heap.size w3 w3 := Below.refl _ _
          obtain ⟨c3, hBw3⟩ := HB3.out
          have HBw3 := Lib.hid hBw3
          clear hown hown' hrow hlen hJl hJ3 hzT hjb hTx hall hb3 HB3 HZ HNO HL cz cn hgb hgl hncap hlt hBw3 HB HEN
          have l1 : ¬ (9223372036854775807 < 5 + sn.size) := by omega
          have l2 : ¬ (9223372036854775807 < 5 + sn.size + 1) := by omega
          have l3 : ¬ (9223372036854775807 < 5 + sn.size + 1 + jb.size) := by omega
          go_wp2_with fail
          go_region_held3 (fun w' => w'.cell? ⟨w.heap.size, 0, none⟩ = some (.string sn) ∧ Below w3.heap.size w3 w')
            ((repeat' apply And.intro) <;> (repeat (first | (with_reducible assumption) | (with_reducible refine rcell_drew ?_) | (with_reducible refine Below.drew ?_))))
            ((go_at_call 58; refine (HJ.out _ (by exact ⟨by first | (with_reducible assumption) | exact rcell_drew (by with_reducible assumption), by first | (with_reducible assumption) | exact Below.drew (by with_reducible assumption)⟩)).mono ?_; rintro e w5 ⟨rfl, d0, d1⟩))
          all_goals go_wp2_with fail
          all_goals go_ret2
          all_goals exact ⟨by rw [HTx.out, HZ2.out]; rfl, HBw3.out.trans (d1.mono HBw3.out.size)⟩
        · have HF := Lib.hid (HNO.out _ (HZ.out _ _ _ _ HB1.out HE0.out HEN.out hall) rfl)
          clear HNO HZ HL hall hb3 cz cn
          go_wp2_with fail
          go_ret2
          exact ⟨by rw [HF.out]; rfl, HB3.out.2⟩


theorem bwrite_any (B b : Nat) (l : List UInt8) (s : ByteArray) (w : World) (h : Lib.IsBuilder 78 5 B b (Lib.byteCells l) w) (hl : l.length + s.size ≤ 140737488355328) (hB : B ≤ w.heap.size) :
    Calls Tryz.prog 31 #[.pointer (some ⟨b, 0, none⟩), .string s] w fun e w' => e = .returned (.tuple #[.int .i64 s.size, .nilIface]) ∧ Lib.IsBuilder 78 5 B b (Lib.byteCells (l ++ s.data.toList)) w' ∧ Below B w w' := by
  have hL : Lays.n166 Tryz.prog Tryz.lays156_ren := { Tryz.lays156 with }
  refine (Any.Builder_WriteString hL Tryz.Builder_Extra_156 B b (Lib.byteCells l) s w h (by rw [Lib.byteCells_length]; exact hl) hB).mono ?_
  rintro e w' ⟨he, h1, h2⟩
  refine ⟨he, .inr ?_, h2⟩
  rw [Lib.byteCells_append, ← Lib.strCells_eq]
  exact h1
theorem bstring_any (B b : Nat) (l : List UInt8) (w : World) (h : Lib.IsBuilder 78 5 B b (Lib.byteCells l) w) (hB : B ≤ w.heap.size) :
    Calls Tryz.prog 32 #[.pointer (some ⟨b, 0, none⟩)] w fun e w' => e = .returned (.string ⟨l.toArray⟩) ∧ Below B w w' := by
  have hL : Lays.n169 Tryz.prog Tryz.lays156_ren := { Tryz.lays156 with }
  exact Any.Builder_String_any hL Tryz.Builder_Extra_156 B b l w h hB
theorem bnew (w : World) : Lib.IsBuilder 78 5 w.heap.size w.heap.size (Lib.byteCells []) (w.alloc (.cells #[.pointer none, .slice none 0 0] 78)) :=
  .inl ⟨Nat.le_refl _, .slice none 0 0, Blk.new' _ _ _ rfl, World.ownsRow_nil .., by simp [Value.ownBlock]⟩

def LenLe (m : Nat) (l : List (List UInt8)) : Prop := ∀ a ∈ l, a.length ≤ m
theorem lines_len (m : Nat) : ∀ l : List (List UInt8), LenLe m l → (linesT l).length ≤ l.length * (m + 1)
  | [], _ => by simp [linesT]
  | a :: l, h => by
    have h1 := h a (List.mem_cons_self ..)
    have h2 := lines_len m l fun x hx => h x (List.mem_cons_of_mem _ hx)
    simp only [linesT, List.map_cons, List.flatten_cons, List.length_append, List.length_cons, List.length_nil] at h2 ⊢
    rw [Nat.succ_mul]
    omega

structure SrcSz (s : SourceP) : Prop where
  rules : ∀ r ∈ s.rules, r.name.length ≤ 1048576 ∧ r.lett.length ≤ 1048576
  zones : ∀ z ∈ s.zones, ZoneSz z
  links : ∀ l ∈ s.links, l.target.length ≤ 1048576 ∧ l.name.length ≤ 1048576
  shifts : ∀ x ∈ s.shifts, x.length ≤ 1048576
theorem all_ok {α : Type} {f : α → List UInt8 × Int} {b : α → Bool} {t : α → List UInt8} (h : ∀ x, f x = if b x = true then (t x, 0) else ([], 2)) (l : List α) : l.all (fun x => (f x).2 == 0) = l.all b := by
  congr 1
  funext x
  rw [h]
  split
  · rename_i h; rw [h]; rfl
  · rename_i h; rw [Bool.eq_false_iff.2 h]; rfl
theorem map_ok {α : Type} {f : α → List UInt8 × Int} {b : α → Bool} {t : α → List UInt8} (h : ∀ x, f x = if b x = true then (t x, 0) else ([], 2)) {l : List α} (hl : l.all b = true) : (l.map fun x => (f x).1) = l.map t := by
  refine List.map_congr_left fun x hx => ?_
  rw [h, if_pos (List.all_eq_true.1 hl x hx)]
theorem rule_cells (r : RuleP) : r.cells.size = 11 ∧ r.cells.all (·.oneCell') = true := ⟨rfl, by simp [RuleP.cells, Value.oneCell']⟩
theorem link_cells (r : LinkP) : r.cells.size = 2 ∧ r.cells.all (·.oneCell') = true := ⟨rfl, by simp [LinkP.cells, Value.oneCell']⟩
/-- a zone with a slice value -/
abbrev ZV := { q : ZoneP × Value // ∃ p c, q.2 = .slice p q.1.eras.length c }
def encZV (q : ZV) : Array Value := encZ q.1
theorem zone_cells (q : ZV) : (encZV q).size = 2 ∧ (encZV q).all (·.oneCell') = true := by
  obtain ⟨⟨z, v⟩, p, c, hv⟩ := q
  simp only at hv
  subst hv
  exact ⟨rfl, by simp [encZV, encZ, Value.oneCell']⟩

theorem zone_len {z : ZoneP} (h : zoneOk z = true) (h60 : z.eras.length ≤ 60) : (zoneT z).length ≤ 20000 := by
  unfold zoneOk at h
  simp only [Bool.and_eq_true] at h
  have h1 : z.name.length ≤ 60 := by
    have := h.1.1.1
    unfold zoneB at this
    rw [Bool.and_eq_true] at this
    exact of_decide_eq_true this.1
  have h2 := join_le [10, 9] 217 (z.eras.map eraT) fun a ha => by
    obtain ⟨e, he, rfl⟩ := List.mem_map.1 ha
    exact eraT_len ((eraOk_iff e).1 (List.all_eq_true.1 h.2 e he))
  rw [List.length_map] at h2
  have h3 : z.eras.length * (217 + [10, 9].length) ≤ 60 * 219 := Nat.mul_le_mul h60 (by decide)
  unfold zoneT
  rw [joinB_eq]
  simp only [List.length_append, List.length_cons, List.length_nil] at h2 h3 ⊢
  omega
theorem rule_len {r : RuleP} (h : ruleOk r = true) : (ruleT r).length ≤ 20000 := by
  have := ruleT_len ((ruleOk_iff r).1 h)
  omega
theorem zoneB_len {l : List UInt8} (h : zoneB l = true) : l.length ≤ 60 := by
  unfold zoneB at h
  rw [Bool.and_eq_true] at h
  exact of_decide_eq_true h.1
theorem link_len {l : LinkP} (h : linkOk l = true) : (linkT l).length ≤ 20000 := by
  unfold linkOk at h
  rw [Bool.and_eq_true] at h
  have h1 := zoneB_len h.1
  have h2 := zoneB_len h.2
  unfold linkT
  simp only [List.length_append, List.length_cons, List.length_nil]
  omega
theorem shift_len {l : List UInt8} (h : setB l = true) : (shiftT l).length ≤ 20000 := by
  have := set_len h
  unfold shiftT
  simp only [List.length_append, List.length_cons, List.length_nil]
  omega
theorem src_len {s : SourceP} (h : srcOk s = true) (h60 : ∀ z ∈ s.zones, z.eras.length ≤ 60) : LenLe 20000 (srcLs s) := by
  unfold srcOk at h
  simp only [Bool.and_eq_true, List.all_eq_true] at h
  intro a ha
  simp only [srcLs, List.mem_append, List.mem_map] at ha
  rcases ha with ((⟨r, hr, rfl⟩ | ⟨z, hz, rfl⟩) | ⟨l, hl, rfl⟩) | ⟨x, hx, rfl⟩
  · exact rule_len (h.1.1.1 r hr)
  · exact zone_len (h.1.1.2 z hz) (h60 z hz)
  · exact link_len (h.1.2 l hl)
  · exact shift_len (h.2 x hx)

theorem RowsAt.unmap {α β : Type} {w : World} {n k : Nat} {enc : α → Array Value} {sl : Value} (g : β → α) (l : List β) (h : RowsAt w n k enc sl (l.map g)) : RowsAt w n k (fun x => enc (g x)) sl l := by
  obtain ⟨p, c, e, h2⟩ := h
  refine ⟨p, c, by rw [e, List.length_map], fun h0 => ?_⟩
  obtain ⟨b, o, e2, hlt, h3⟩ := h2 (by simpa using h0)
  exact ⟨b, o, e2, hlt, fun i x hx => h3 i (g x) (by rw [List.getElem?_map, hx]; rfl)⟩
/-- what Print holds: its box, and what lay before -/
def PSt (w : World) (C : Array Value) (W : World) : Prop := Blk W w.heap.size 27 C ∧ Below w.heap.size w W
theorem PSt.below {w W W' : World} {C : Array Value} (h : PSt w C W) (hb : Below (w.heap.size + 1) W W') : PSt w C W' :=
  ⟨h.1.below hb (by omega), h.2.trans (hb.mono (by omega))⟩
/-- the answer of one call of lines, behind the outs so far -/
def LinesTo (w : World) (C : Array Value) (outs new : List (List UInt8)) (ok : Bool) (e : Ending) (W : World) : Prop :=
  ((ok = true ∧ ∃ v', e = .returned (.tuple #[v', .int .i64 0]) ∧ W.ownsRow (w.heap.size + 1) 9 1 v' (outs ++ new).length (strV (outs ++ new))) ∨ (ok = false ∧ e = .returned (.tuple #[.slice none 0 0, .int .i64 2]))) ∧ PSt w C W

theorem lines_to {α : Type} {f : α → List UInt8 × Int} {b : α → Bool} {t : α → List UInt8} (hf : ∀ x, f x = if b x = true then (t x, 0) else ([], 2)) {l : List α} {outs : List (List UInt8)} {w W W' : World} {C : Array Value} {e : Ending} (hP : PSt w C W)
    (h : ((l.all (fun x => (f x).2 == 0) = true ∧ ∃ v', e = .returned (.tuple #[v', .int .i64 0]) ∧ W'.ownsRow (w.heap.size + 1) 9 1 v' (outs.length + l.length) (strV (outs ++ l.map fun x => (f x).1))) ∨ (l.all (fun x => (f x).2 == 0) = false ∧ e = .returned (.tuple #[.slice none 0 0, .int .i64 2]))) ∧ Below (w.heap.size + 1) W W') :
    LinesTo w C outs (l.map t) (l.all b) e W' := by
  obtain ⟨h1, h2⟩ := h
  refine ⟨?_, hP.below h2⟩
  rw [all_ok hf] at h1
  rcases h1 with ⟨ha, v', he, ho⟩ | ⟨ha, he⟩
  · rw [map_ok hf ha] at ho
    exact .inl ⟨ha, v', he, by rw [List.length_append, List.length_map]; exact ho⟩
  · exact .inr ⟨ha, he⟩
theorem own_parts {w : World} {B : Nat} {v : Value} {strs : List (List UInt8)} (h : w.ownsRow B 9 1 v strs.length (strV strs)) : ∃ p cap, v = .slice p strs.length cap ∧ (0 < strs.length → ∃ g, p = some ⟨g, 0, none⟩ ∧ g < w.heap.size ∧ ∀ (j : Nat) l, strs[j]? = some l → w.cell? ⟨g, j, none⟩ = some (.string ⟨l.toArray⟩)) := by
  rcases h.2 with ⟨rfl, h0⟩ | ⟨g, cap, cur, rfl, _, _, _⟩
  · exact ⟨none, 0, by rw [h0], fun hp => absurd hp (by omega)⟩
  · refine ⟨_, cap, rfl, fun _ => ⟨g, rfl, (h.lt g rfl).2, fun j l hl => ?_⟩⟩
    have := (StrRow.own h (h.lt g rfl).2).at_ j l hl
    rwa [Nat.zero_add] at this

set_option maxRecDepth 100000 in
set_option maxHeartbeats 2000000 in
theorem pprint_any (r z l h : Value) (zs : List (ZoneP × Value)) (s : SourceP) (w : World) (hs : SrcIs w w.heap.size r z l h zs s) (hT : ETabs w) (hR : RTabs w) (hz : SrcSz s) :
    Calls Tryz.prog 11 #[.agg #[r, z, l, h]] w fun e w' => e = .returned (.tuple #[.string ⟨(srcPrintR s).1.toArray⟩, .int .i64 (srcPrintR s).2]) ∧ Below w.heap.size w w' := by
  have hb0 : Below w.heap.size w (w.alloc (.cells #[r, z, l, h] 27)) := (Below.refl _ _).alloc (Nat.le_refl _) _
  have HP0 := Lib.hid (show PSt w #[r, z, l, h] (w.alloc (.cells #[r, z, l, h] 27)) from ⟨Blk.new' _ _ _ rfl, hb0⟩)
  have hs0 : SrcIs (w.alloc (.cells #[r, z, l, h] 27)) (w.alloc (.cells #[r, z, l, h] 27)).heap.size r z l h zs s := by
    have k := hs.below hb0
    exact ⟨k.1.mono (by simp), k.2.1.mono (by simp), k.2.2.1, fun q hq => (k.2.2.2.1 q hq).mono (by simp), k.2.2.2.2.1.mono (by simp), k.2.2.2.2.2.mono (by simp)⟩
  have HM := Lib.hid (many_any r z l h zs s _ hs0)
  cases hm : manyB s with
  | true =>
    have HF := Lib.hid (show srcPrintR s = ([], 7) by unfold srcPrintR; rw [if_pos hm])
    rw [hm] at HM
    obtain ⟨p1, c1, rfl⟩ := hs.1.slice
    obtain ⟨p2, c2, rfl⟩ := hs.2.1.slice
    obtain ⟨p3, c3, rfl⟩ := hs.2.2.2.2.1.slice
    obtain ⟨p4, c4, rfl⟩ := hs.2.2.2.2.2.slice
    clear hb0 hs0 hs hm
    go_enter Tryz.func11, Tryz.ntmps11
    go_wp2_with fail
    refine HM.out.mono ?_
    rintro e w1 ⟨rfl, hb1⟩
    have HB1 := Lib.hid (HP0.out.2.trans (hb1.mono HP0.out.2.size))
    clear hb1
    go_wp2_with fail
    go_ret2
    exact ⟨by rw [HF.out]; rfl, HB1.out⟩
  | false =>
    have hlen : s.rules.length ≤ 2000 ∧ s.zones.length ≤ 500 ∧ s.links.length ≤ 1000 ∧ s.shifts.length ≤ 2000 ∧ ∀ z ∈ s.zones, z.eras.length ≤ 60 := by
      unfold manyB at hm
      simp only [Bool.or_eq_false_iff, decide_eq_false_iff_not, List.any_eq_false] at hm
      refine ⟨by omega, by omega, by omega, by omega, fun z hz => ?_⟩
      have := hm.2 z hz
      simpa using this
    have hzl : zs.length = s.zones.length := by rw [← hs.2.2.1]; simp
    have hvs : ∀ q ∈ zs, ∃ p c, q.2 = .slice p q.1.eras.length c := fun q hq => (hs.2.2.2.1 q hq).slice
    obtain ⟨ys, hys⟩ : ∃ ys : List ZV, ys.map (·.1) = zs := ⟨zs.attach.map fun q => ⟨q.1, hvs q.1 q.2⟩, by rw [List.map_map]; exact List.attach_map_subtype_val zs⟩
    have hyl : ys.length = zs.length := by rw [← hys]; simp
    have hyz : ys.map (fun q => q.1.1) = s.zones := by rw [← hs.2.2.1, ← hys, List.map_map]; rfl
    have hym : ∀ q ∈ ys, q.1.1 ∈ s.zones ∧ q.1 ∈ zs := fun q hq => ⟨by rw [← hyz]; exact List.mem_map.2 ⟨q, hq, rfl⟩, by rw [← hys]; exact List.mem_map.2 ⟨q, hq, rfl⟩⟩
    have hE : ∀ W, Below w.heap.size w W → ETabs W ∧ RTabs W := fun W hW => ⟨hT.below hW, hR.below hW⟩
    have rows : ∀ W, Below w.heap.size w W → SrcIs W (w.heap.size + 1) r z l h zs s := fun W hW => by
      have k := hs.below hW
      exact ⟨k.1.mono (by omega), k.2.1.mono (by omega), k.2.2.1, fun q hq => (k.2.2.2.1 q hq).mono (by omega), k.2.2.2.2.1.mono (by omega), k.2.2.2.2.2.mono (by omega)⟩
    have HL1 := Lib.hid (show ∀ W, PSt w #[r, z, l, h] W → Calls Tryz.prog 26 #[.slice none 0 0, r, .func (.func 17) #[] #[]] W fun e w' => LinesTo w #[r, z, l, h] [] (s.rules.map ruleT) (s.rules.all ruleOk) e w' from fun W hW =>
      (linesRule_any RuleP.cells rulePrintR (fun x => (rule_cells x).1) (fun x => (rule_cells x).2) s.rules r (.slice none 0 0) [] (w.heap.size + 1) W hW.1.lt (rows W hW.2).1 (World.ownsRow_nil ..) (by omega) (by decide) (fun x hx W' hW' => rulePrint_any x W' (hE W' (hW.below hW').2).2 (hz.rules x hx).1 (hz.rules x hx).2)).mono fun e w' k => lines_to (fun x => rfl) hW k)
    have HL2 := Lib.hid (show ∀ W v outs, PSt w #[r, z, l, h] W → W.ownsRow (w.heap.size + 1) 9 1 v outs.length (strV outs) → outs.length ≤ 10000 → Calls Tryz.prog 27 #[v, z, .func (.func 28) #[] #[]] W fun e w' => LinesTo w #[r, z, l, h] outs (s.zones.map zoneT) (s.zones.all zoneOk) e w' from fun W v outs hW ho hol => by
      have hrow : RowsAt W (w.heap.size + 1) 2 encZV z ys := RowsAt.unmap (fun q : ZV => q.1) ys (by rw [hys]; exact (rows W hW.2).2.1)
      refine (linesZone_any encZV (fun q => zonePrintR q.1.1) (fun x => (zone_cells x).1) (fun x => (zone_cells x).2) ys z v outs (w.heap.size + 1) W hW.1.lt hrow ho (by omega) hol (fun x hx W' hW' => pzone_any x.1.1 x.1.2 (w.heap.size + 1) W' (hW.below hW').1.lt ((rows W' (hW.below hW').2).2.2.2.1 x.1 (hym x hx).2) (hE W' (hW.below hW').2).1 (hz.zones _ (hym x hx).1) (hlen.2.2.2.2 _ (hym x hx).1))).mono fun e w' k => ?_
      have := lines_to (f := fun q : ZV => zonePrintR q.1.1) (b := fun q => zoneOk q.1.1) (t := fun q => zoneT q.1.1) (fun x => rfl) hW k
      rw [← hyz, List.map_map, List.all_map]
      exact this)
    have HL3 := Lib.hid (show ∀ W v outs, PSt w #[r, z, l, h] W → W.ownsRow (w.heap.size + 1) 9 1 v outs.length (strV outs) → outs.length ≤ 10000 → Calls Tryz.prog 29 #[v, l, .func (.func 19) #[] #[]] W fun e w' => LinesTo w #[r, z, l, h] outs (s.links.map linkT) (s.links.all linkOk) e w' from fun W v outs hW ho hol =>
      (linesLink_any LinkP.cells linkPrintR (fun x => (link_cells x).1) (fun x => (link_cells x).2) s.links l v outs (w.heap.size + 1) W hW.1.lt (rows W hW.2).2.2.2.2.1 ho (by omega) hol (fun x hx W' hW' => linkPrint_any x W' (hz.links x hx).1 (hz.links x hx).2)).mono fun e w' k => lines_to (fun x => rfl) hW k)
    have HL4 := Lib.hid (show ∀ W v outs, PSt w #[r, z, l, h] W → W.ownsRow (w.heap.size + 1) 9 1 v outs.length (strV outs) → outs.length ≤ 10000 → Calls Tryz.prog 30 #[v, h, .func (.func 20) #[] #[]] W fun e w' => LinesTo w #[r, z, l, h] outs (s.shifts.map shiftT) (s.shifts.all setB) e w' from fun W v outs hW ho hol =>
      (linesStr_any (fun x : List UInt8 => x) shiftPrintR s.shifts h v outs (w.heap.size + 1) W hW.1.lt (rows W hW.2).2.2.2.2.2 ho (by omega) hol (fun x hx W' hW' => shiftPrint_any x W' (hz.shifts x hx))).mono fun e w' k => lines_to (fun x => rfl) hW k)
    have hfail : srcOk s = false → srcPrintR s = ([], 2) := fun k => by unfold srcPrintR; rw [hm, k]; rfl
    have hgood : srcOk s = true → srcPrintR s = (srcT s, 0) ∧ LenLe 20000 (srcLs s) := fun k => ⟨by unfold srcPrintR; rw [hm, k]; rfl, src_len k hlen.2.2.2.2⟩
    have HFA := Lib.hid hfail
    have HGO := Lib.hid hgood
    have HLN := Lib.hid hlen
    rw [hm] at HM
    obtain ⟨p1, c1, rfl⟩ := hs.1.slice
    obtain ⟨p2, c2, rfl⟩ := hs.2.1.slice
    obtain ⟨p3, c3, rfl⟩ := hs.2.2.2.2.1.slice
    obtain ⟨p4, c4, rfl⟩ := hs.2.2.2.2.2.slice
    clear hb0 hs0 hs hm hfail hgood hlen rows hE hym hyz hyl hys hvs hzl hT hR hz
    go_enter Tryz.func11, Tryz.ntmps11
    go_wp2_with fail
    refine HM.out.mono ?_
    rintro e w1 ⟨rfl, hb1⟩
    have HP1 := Lib.hid (HP0.out.below (hb1.mono (by simp)))
    have d0 := HP1.out.1.cell_ (i := 0) rfl
    clear hb1 HP0 HM
    go_wp2_with fail
    refine (HL1.out _ HP1.out).mono ?_
    rintro e w2 ⟨(⟨ho, v1, rfl, hown⟩ | ⟨ho, rfl⟩), hP2⟩
    · have HO1 := Lib.hid ho
      have HW1 := Lib.hid hown
      have HP2 := Lib.hid hP2
      have d1 := HP2.out.1.cell_ (i := 1) rfl
      clear hown ho hP2 d0 HL1 HP1
      go_wp2_with fail
      refine (HL2.out _ _ _ HP2.out HW1.out (by have := HLN.out; simp; omega)).mono ?_
      rintro e w3 ⟨(⟨ho, v2, rfl, hown⟩ | ⟨ho, rfl⟩), hP3⟩
      · have HO2 := Lib.hid ho
        have HW2 := Lib.hid hown
        have HP3 := Lib.hid hP3
        have d2 := HP3.out.1.cell_ (i := 2) rfl
        clear hown ho hP3 d1 HL2 HP2 HW1
        go_wp2_with fail
        refine (HL3.out _ _ _ HP3.out HW2.out (by have := HLN.out; simp; omega)).mono ?_
        rintro e w4 ⟨(⟨ho, v3, rfl, hown⟩ | ⟨ho, rfl⟩), hP4⟩
        · have HO3 := Lib.hid ho
          have HW3 := Lib.hid hown
          have HP4 := Lib.hid hP4
          have d3 := HP4.out.1.cell_ (i := 3) rfl
          clear hown ho hP4 d2 HL3 HP3 HW2
          go_wp2_with fail
          refine (HL4.out _ _ _ HP4.out HW3.out (by have := HLN.out; simp; omega)).mono ?_
          rintro e w5 ⟨(⟨ho, v4, rfl, hown⟩ | ⟨ho, rfl⟩), hP5⟩
          · have hG := HGO.out (by unfold srcOk; rw [HO1.out, HO2.out, HO3.out, ho]; rfl)
            have hown' : w5.ownsRow (w.heap.size + 1) 9 1 v4 (srcLs s).length (strV (srcLs s)) := hown
            have hN : (srcLs s).length ≤ 5500 := by
              have := HLN.out
              simp only [srcLs, List.length_append, List.length_map]
              omega
            have hGT : srcT s = linesT (srcLs s) := rfl
            obtain ⟨hG1, hG2⟩ := hG
            rw [hGT] at hG1
            have HGR := Lib.hid hG1
            have HB5 := Lib.hid hP5.2
            clear hown ho hP5 d3 HL4 HP4 HW3 HO1 HO2 HO3 HGO HFA HLN hG1 hGT
            generalize srcLs s = strs at *
            obtain ⟨p5, cap, rfl, hrow⟩ := own_parts hown'
            have HROW := Lib.hid hrow
            have HLE := Lib.hid hG2
            have HBN := Lib.hid (show Lib.IsBuilder 78 5 w5.heap.size w5.heap.size (Lib.byteCells (linesT (strs.take 0))) (w5.alloc (.cells #[.pointer none, .slice none 0 0] 78)) ∧ Below w5.heap.size w5 (w5.alloc (.cells #[.pointer none, .slice none 0 0] 78)) from ⟨bnew w5, (Below.refl _ _).alloc (Nat.le_refl _) _⟩)
            clear hrow hown' hG2
            go_wp2_with fail
            go_loopw [8, 49] (fun _ i wr => ∃ k : Nat, k ≤ strs.length ∧ i = .int .i64 (k : Int) ∧ Hid (Lib.IsBuilder 78 5 w5.heap.size w5.heap.size (Lib.byteCells (linesT (strs.take k))) wr ∧ Below w5.heap.size w5 wr)) (fun _ i _ => strs.length - (intOf i).toNat)
            case atStart => exact ⟨0, Nat.zero_le _, rfl, HBN⟩
            case round =>
              clear HBN
              obtain ⟨k, hk, rfl, HB⟩ := hrel
              by_cases hlt : k < strs.length
              · obtain ⟨x, hx⟩ : ∃ x, strs[k]? = some x := ⟨_, List.getElem?_eq_getElem hlt⟩
                obtain ⟨g, rfl, hg, hat⟩ := HROW.out (by omega)
                have ck : wr.cell? ⟨g, k, none⟩ = some (.string ⟨x.toArray⟩) := (HB.out.2.cell (p := ⟨g, k, none⟩) hg).trans (hat k x hx)
                have hd : decide ((k : Int) < (strs.length : Int)) = true := by simp; omega
                have hxl : x.length ≤ 20000 := HLE.out x (List.mem_of_getElem? hx)
                have hT : linesT (strs.take (k + 1)) = linesT (strs.take k) ++ (x ++ [10]) := by
                  rw [List.take_add_one, hx, show (some x).toList = [x] from rfl, linesT_snoc, List.append_assoc]
                have hTl : (linesT (strs.take k)).length ≤ 200000000 := by
                  have h1 := lines_len 20000 (strs.take k) fun a ha => HLE.out a (List.mem_of_mem_take ha)
                  rw [List.length_take] at h1
                  have h2 : min k strs.length * (20000 + 1) ≤ 5500 * 20001 := Nat.mul_le_mul (by omega) (by decide)
                  omega
                have HW := Lib.hid (bwrite_any w5.heap.size w5.heap.size (linesT (strs.take k)) (⟨x.toArray⟩ ++ ⟨#[10]⟩) wr HB.out.1 (by rw [ByteArray.size_append]; show _ + (x.toArray.size + 1) ≤ _; simp only [List.size_toArray]; omega) HB.out.2.size)
                rw [show linesT (strs.take k) ++ ((⟨x.toArray⟩ : ByteArray) ++ ⟨#[10]⟩).data.toList = linesT (strs.take (k + 1)) by rw [hT, ByteArray.data_append]; simp] at HW
                obtain ⟨xb, hxb⟩ : ∃ xb : ByteArray, (⟨x.toArray⟩ : ByteArray) = xb := ⟨_, rfl⟩
                have hxs : xb.size ≤ 20000 := by rw [← hxb]; simpa [ByteArray.size] using hxl
                rw [hxb] at HW ck
                have l1 : ¬ (9223372036854775807 < xb.size + 1) := by omega
                have HBo := Lib.hid HB.out.2
                clear hx hg hat hxl hT hTl hxb HB HROW HLE
                go_wp2_with fail
                refine HW.out.mono ?_
                rintro e w6 ⟨rfl, hbu, hb6⟩
                have HB6 := Lib.hid (And.intro hbu (HBo.out.trans hb6))
                clear hbu hb6
                go_wp2_with fail
                go_roundw
                case rel => exact ⟨k + 1, by omega, by go_num, HB6⟩
                case measure => simp [intOf]; omega
              · obtain rfl : k = strs.length := by omega
                have hd : decide ((strs.length : Int) < (strs.length : Int)) = false := by simp
                have HS := Lib.hid (bstring_any w5.heap.size w5.heap.size (linesT strs) wr (by have := HB.out.1; rwa [List.take_length] at this) HB.out.2.size)
                have HBo := Lib.hid HB.out.2
                clear HB HROW HLE hlt hk
                go_wp2_with fail
                refine HS.out.mono ?_
                rintro e w6 ⟨rfl, hb6⟩
                have HB6 := Lib.hid (HB5.out.trans ((HBo.out.trans hb6).mono HB5.out.size))
                clear hb6
                go_wp2_with fail
                go_ret2
                exact ⟨by rw [HGR.out]; rfl, HB6.out⟩
          · have HF := Lib.hid (HFA.out (by unfold srcOk; rw [HO1.out, HO2.out, HO3.out, ho]; rfl))
            clear HL4 HFA HGO HLN ho d3 HP4 HW3
            go_wp2_with fail
            go_ret2
            exact ⟨by rw [HF.out]; rfl, hP5.2⟩
        · have HF := Lib.hid (HFA.out (by unfold srcOk; rw [HO1.out, HO2.out, ho]; rfl))
          clear HL3 HL4 HFA HGO HLN ho d2 HP3 HW2
          go_wp2_with fail
          go_ret2
          exact ⟨by rw [HF.out]; rfl, hP4.2⟩
      · have HF := Lib.hid (HFA.out (by unfold srcOk; rw [HO1.out, ho]; rfl))
        clear HL2 HL3 HL4 HFA HGO HLN ho d1 HP2 HW1
        go_wp2_with fail
        go_ret2
        exact ⟨by rw [HF.out]; rfl, hP3.2⟩
    · have HF := Lib.hid (HFA.out (by unfold srcOk; rw [ho]; rfl))
      clear HL1 HL2 HL3 HL4 HFA HGO HLN ho d0
      go_wp2_with fail
      go_ret2
      exact ⟨by rw [HF.out]; rfl, hP2.2⟩
end Go.Proofs.YtmcgbjjcpcgcfaaGreatDoor
