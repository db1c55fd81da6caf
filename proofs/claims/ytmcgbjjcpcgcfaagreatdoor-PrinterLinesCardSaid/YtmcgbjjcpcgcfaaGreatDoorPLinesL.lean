/-
  PrinterLines of the law of layer 14: what the call returns.
-/
import Derived.Test.YtmcgbjjcpcgcfaaGreatDoorPWork
import Derived.Test.YtmcgbjjcpcgcfaaGreatDoorMadeOk
import Derived.Test.YtmcgbjjcpcgcfaaGreatDoorApp2
set_option linter.unusedVariables false
set_option linter.unusedSimpArgs false
namespace Go.Proofs.YtmcgbjjcpcgcfaaGreatDoor
open Go.RowKit Go.Shelf

/-- the made source, its rows the call's own -/
def SOV (B : Nat) (s : SourceP) (u : Value) (W : World) : Prop := ∃ v1 zv v3 v4 cur, u = .agg #[v1, zv, v3, v4] ∧ cur.map (fun q : ZV => q.1.1) = s.zones ∧ SO B s.rules cur s.links s.shifts v1 zv v3 v4 W
section
variable {B : Nat} {rs : List RuleP} {cur : List ZV} {ls : List LinkP} {ss : List (List UInt8)} {v1 zv v3 v4 : Value} {w W W' : World}
theorem SO.below (h : SO B rs cur ls ss v1 zv v3 v4 W) (hb : Below W.heap.size W W') : SO B rs cur ls ss v1 zv v3 v4 W' := ⟨h.rule.kept_ hb, h.zone.kept_ hb, h.link.kept_ hb, h.str.kept_ hb, fun q hq => (h.eras q hq).kept_ hb⟩
theorem SO.mono {B' : Nat} (h : SO B rs cur ls ss v1 zv v3 v4 W) (hB : B' ≤ B) : SO B' rs cur ls ss v1 zv v3 v4 W := ⟨own_mono h.rule hB, own_mono h.zone hB, own_mono h.link hB, own_mono h.str hB, fun q hq => own_mono (h.eras q hq) hB⟩
theorem SO.far (h : SO B rs cur ls ss v1 zv v3 v4 W) {q j : Nat} {C : Array Value} (hq : Blk W q 27 C) (u : Value) : SO B rs cur ls ss v1 zv v3 v4 (W.setCell ⟨q, j, none⟩ u) := ⟨own_farT h.rule hq (by decide) _, own_farT h.zone hq (by decide) _, own_farT h.link hq (by decide) _, own_farT h.str hq (by decide) _, fun q' hq' => own_farT (h.eras q' hq') hq (by decide) _⟩
theorem SOV.last (B : Nat) (s : SourceP) : Lasts (SOV B s) := fun _ _ _ hb ⟨v1, zv, v3, v4, cur, e, h1, h2⟩ => ⟨v1, zv, v3, v4, cur, e, h1, h2.below hb⟩
end
/-- a draft that is there -/
def DraftV (d : DraftP) (v : Value) (W : World) : Prop := DraftOk d ∧ ∃ r z e l h, v = .agg #[r, z, e, l, h] ∧ DraftIs W W.heap.size r z e l h d
theorem DraftV.below {d : DraftP} {v : Value} {W W' : World} (h : DraftV d v W) (hb : Below W.heap.size W W') : DraftV d v W' := by
  obtain ⟨ho, r, z, e, l, h', rfl, k⟩ := h
  exact ⟨ho, r, z, e, l, h', rfl, (k.below hb).mono hb.size⟩
theorem made14_src {d : DraftP} {v : Value} {W : World} (h : DraftV d v W) {B : Nat} (hB : B ≤ W.heap.size) : Calls Tryz.prog 16 #[v] W fun e w' => (∃ u, e = .returned u ∧ SOV B (srcM d) u w') ∧ Below W.heap.size W w' := by
  obtain ⟨ho, r, z, e, l, h', rfl, k⟩ := h
  refine (made14_any _ _ _ _ _ _ _ k ho).mono ?_
  rintro e w' ⟨⟨v1, zv, v3, v4, cur, rfl, h1, h2⟩, hb⟩
  exact ⟨⟨_, rfl, v1, zv, v3, v4, cur, rfl, h1, h2.mono hB⟩, hb⟩
theorem draft_slices {d : DraftP} {v : Value} {W : World} (h : DraftV d v W) : ∃ p1 n1 c1 p2 n2 c2 p3 n3 c3 p4 n4 c4 p5 n5 c5, v = .agg #[.slice p1 n1 c1, .slice p2 n2 c2, .slice p3 n3 c3, .slice p4 n4 c4, .slice p5 n5 c5] := by
  obtain ⟨ho, r, z, e, l, h', rfl, k⟩ := h
  obtain ⟨p1, c1, rfl, _⟩ := k.rules
  obtain ⟨p2, c2, rfl, _⟩ := k.zones
  obtain ⟨p3, c3, rfl, _⟩ := k.eras
  obtain ⟨p4, c4, rfl, _⟩ := k.links
  obtain ⟨p5, c5, rfl, _⟩ := k.shifts
  exact ⟨_, _, _, _, _, _, _, _, _, _, _, _, _, _, _, rfl⟩
def NewS (B : Nat) (u : Value) (W : World) : Prop := ∃ g, u = .pointer (some ⟨g, 0, none⟩) ∧ Blk W g 27 #[.slice none 0 0, .slice none 0 0, .slice none 0 0, .slice none 0 0] ∧ B ≤ g
theorem NewS.last (B : Nat) : Lasts (NewS B) := fun u W W2 hb ⟨g, e, h1, h2⟩ => ⟨g, e, h1.below hb h1.lt, h2⟩
/-- two drafts that are held -/
def D2 (w : World) (d f : DraftP) (A B : Array Value) (W : World) : Prop := Blk W w.heap.size 39 A ∧ Blk W (w.heap.size + 1) 39 B ∧ DraftV d (.agg A) W ∧ DraftV f (.agg B) W ∧ Below w.heap.size w W
theorem D2.below {w W W' : World} {d f : DraftP} {A B : Array Value} (h : D2 w d f A B W) (hb : Below W.heap.size W W') : D2 w d f A B W' := ⟨h.1.below hb h.1.lt, h.2.1.below hb h.2.1.lt, h.2.2.1.below hb, h.2.2.2.1.below hb, h.2.2.2.2.trans (hb.mono h.2.2.2.2.size)⟩
/-- both sources, part behind part -/
def catS (a b : SourceP) : SourceP := ⟨a.rules ++ b.rules, a.zones ++ b.zones, a.links ++ b.links, a.shifts ++ b.shifts⟩
/-- the relation of each operation of the big region: four of them append onto rows that it made -/
def R4 (L n1 n2 n3 n4 : Nat) (i : Nat) : World → World → Prop := if i = 6 then GT L 47 11 n1 else if i = 13 then GT L 50 2 n2 else if i = 20 then GT L 58 2 n3 else if i = 27 then GT L 9 1 n4 else BelowR
theorem GT.refl (B e size n : Nat) (w : World) : GT B e size n w w := ⟨rfl, rfl, rfl, Nat.le_refl _, fun _ _ => rfl, fun _ _ _ _ h _ => h, fun _ _ _ _ _ h => h⟩
section
variable {L n1 n2 n3 n4 i : Nat} {w w' : World}
theorem R4.cases (h : R4 L n1 n2 n3 n4 i w w') : (i = 6 ∧ GT L 47 11 n1 w w') ∨ (i = 13 ∧ GT L 50 2 n2 w w') ∨ (i = 20 ∧ GT L 58 2 n3 w w') ∨ (i = 27 ∧ GT L 9 1 n4 w w') ∨ Below w.heap.size w w' := by
  unfold R4 at h
  split at h
  · exact .inl ⟨by assumption, h⟩
  · split at h
    · exact .inr (.inl ⟨by assumption, h⟩)
    · split at h
      · exact .inr (.inr (.inl ⟨by assumption, h⟩))
      · split at h
        · exact .inr (.inr (.inr (.inl ⟨by assumption, h⟩)))
        · exact .inr (.inr (.inr (.inr h)))
theorem R4.refl (L n1 n2 n3 n4 i : Nat) (w : World) : R4 L n1 n2 n3 n4 i w w := by
  unfold R4
  repeat' split
  all_goals first | exact GT.refl _ _ _ _ _ | exact Below.refl _ _
theorem R4.size (h : R4 L n1 n2 n3 n4 i w w') : w.heap.size ≤ w'.heap.size := by
  rcases h.cases with ⟨_, h⟩ | ⟨_, h⟩ | ⟨_, h⟩ | ⟨_, h⟩ | h
  · exact h.sz
  · exact h.sz
  · exact h.sz
  · exact h.sz
  · exact h.size
theorem R4.low (h : R4 L n1 n2 n3 n4 i w w') (hL : L ≤ w.heap.size) : Below L w w' := by
  rcases h.cases with ⟨_, h⟩ | ⟨_, h⟩ | ⟨_, h⟩ | ⟨_, h⟩ | h
  · exact h.below
  · exact h.below
  · exact h.below
  · exact h.below
  · exact h.mono hL
theorem R4.blk (h : R4 L n1 n2 n3 n4 i w w') {g : Nat} {C : Array Value} (hb : Blk w g 27 C) : Blk w' g 27 C := by
  rcases h.cases with ⟨_, h⟩ | ⟨_, h⟩ | ⟨_, h⟩ | ⟨_, h⟩ | h
  · exact h.blk hb (by decide)
  · exact h.blk hb (by decide)
  · exact h.blk hb (by decide)
  · exact h.blk hb (by decide)
  · exact hb.below h hb.lt
theorem R4.own (h : R4 L n1 n2 n3 n4 i w w') {B' e k m : Nat} {v : Value} {xs : List Value} (ho : w.ownsRow B' e k v m xs) (c1 : i = 6 → e ≠ 47 ∨ (e = 47 ∧ k = 11 ∧ m ≤ n1)) (c2 : i = 13 → e ≠ 50 ∨ (e = 50 ∧ k = 2 ∧ m ≤ n2)) (c3 : i = 20 → e ≠ 58 ∨ (e = 58 ∧ k = 2 ∧ m ≤ n3)) (c4 : i = 27 → e ≠ 9 ∨ (e = 9 ∧ k = 1 ∧ m ≤ n4)) : w'.ownsRow B' e k v m xs := by
  rcases h.cases with ⟨hi, h⟩ | ⟨hi, h⟩ | ⟨hi, h⟩ | ⟨hi, h⟩ | h
  · rcases c1 hi with hne | ⟨rfl, rfl, hm⟩
    · exact h.own ho hne
    · exact h.row _ _ _ _ hm ho
  · rcases c2 hi with hne | ⟨rfl, rfl, hm⟩
    · exact h.own ho hne
    · exact h.row _ _ _ _ hm ho
  · rcases c3 hi with hne | ⟨rfl, rfl, hm⟩
    · exact h.own ho hne
    · exact h.row _ _ _ _ hm ho
  · rcases c4 hi with hne | ⟨rfl, rfl, hm⟩
    · exact h.own ho hne
    · exact h.row _ _ _ _ hm ho
  · exact OwnR.kept_ (w := w) ho h
end
theorem flatC_append {α : Type} (enc : α → Array Value) (a b : List α) : flatC enc (a ++ b) = flatC enc a ++ flatC enc b := by simp [flatC]
/-- the four rows of both, and the value of them -/
def Src4 (L : Nat) (a b : SourceP) (ca cb : List ZV) (u : Value) (W : World) : Prop := ∃ v1 v2 v3 v4, u = .agg #[v1, v2, v3, v4] ∧ OwnR 47 11 L (a.rules.length + b.rules.length) (flatC RuleP.cells a.rules ++ flatC RuleP.cells b.rules) v1 W ∧ OwnR 50 2 L (ca.length + cb.length) (flatC encZV ca ++ flatC encZV cb) v2 W ∧ OwnR 58 2 L (a.links.length + b.links.length) (flatC LinkP.cells a.links ++ flatC LinkP.cells b.links) v3 W ∧ OwnR 9 1 L (a.shifts.length + b.shifts.length) (flatC encS a.shifts ++ flatC encS b.shifts) v4 W
/-- the state behind the joining -/
structure LS (w : World) (s : SourceP) (gs : Nat) (zs : List (ZoneP × Value)) (V : Array Value) (r z l h : Value) (W : World) : Prop where
  blk : Blk W gs 27 V
  src : SrcIs W W.heap.size r z l h zs s
  bel : Below w.heap.size w W
theorem LS.below {w : World} {s : SourceP} {gs : Nat} {zs : List (ZoneP × Value)} {V : Array Value} {r z l h : Value} {W W' : World} (k : LS w s gs zs V r z l h W) (hb : Below W.heap.size W W') : LS w s gs zs V r z l h W' := ⟨k.blk.below hb k.blk.lt, k.src.now hb, k.bel.trans (hb.mono k.bel.size)⟩

/-- a line of an era -/
def eraL (nm : List UInt8) (k : Nat) (e : EraP) : List UInt8 := if k = 0 then [90, 111, 110, 101, 32] ++ nm ++ [32] ++ eraT e else [9] ++ eraT e
def zoneL (z : ZoneP) : List (List UInt8) := z.eras.mapIdx (eraL z.name)
theorem linesT_tabs : ∀ l : List EraP, linesT (l.map fun e => [9] ++ eraT e) = (l.map fun e => 9 :: (eraT e ++ [10])).flatten
  | [] => rfl
  | e :: l => by simp [linesT, Function.comp_def]
theorem join_tabs (a : List UInt8) : ∀ l : List (List UInt8), joinB [10, 9] (a :: l) ++ [10] = a ++ [10] ++ (l.map fun x => 9 :: (x ++ [10])).flatten
  | [] => by simp [joinB]
  | b :: l => by
    have ih := join_tabs b l
    simp only [joinB, List.map_cons, List.flatten_cons] at ih ⊢
    simp only [List.append_assoc] at ih ⊢
    rw [ih]
    simp
theorem linesT_cons (x : List UInt8) (l : List (List UInt8)) : linesT (x :: l) = x ++ [10] ++ linesT l := by simp [linesT]
theorem zoneL_text {z : ZoneP} (h : z.eras ≠ []) : linesT (zoneL z) = zoneT z ++ [10] := by
  unfold zoneL zoneT
  cases he : z.eras with
  | nil => exact absurd he h
  | cons e l =>
    rw [List.mapIdx_cons, linesT_cons]
    have h2 : l.mapIdx (fun i => eraL z.name (i + 1)) = l.map fun e => [9] ++ eraT e := by
      rw [List.mapIdx_eq_zipIdx_map]
      refine List.ext_getElem? fun i => ?_
      rw [List.getElem?_map, List.getElem?_zipIdx, List.getElem?_map]
      cases l[i]? <;> simp [eraL]
    rw [h2, linesT_tabs]
    have h3 := join_tabs (eraT e) (l.map eraT)
    simp only [List.map_cons] at h3 ⊢
    rw [List.append_assoc _ (joinB _ _), h3]
    simp [eraL, List.map_map, Function.comp_def]
theorem linesT_flat : ∀ l : List ZoneP, (∀ z ∈ l, z.eras ≠ []) → linesT (l.map zoneL).flatten = linesT (l.map zoneT)
  | [], _ => rfl
  | z :: l, h => by
    rw [List.map_cons, List.flatten_cons, linesT_append, zoneL_text (h z (List.mem_cons_self ..)), List.map_cons, linesT_cons, linesT_flat l fun y hy => h y (List.mem_cons_of_mem _ hy)]
theorem flat_len : ∀ l : List ZoneP, (∀ z ∈ l, z.eras.length ≤ 4) → ((l.map zoneL).flatten).length ≤ 4 * l.length
  | [], _ => by simp
  | z :: l, h => by
    have h1 := h z (List.mem_cons_self ..)
    have h2 := flat_len l fun y hy => h y (List.mem_cons_of_mem _ hy)
    have h3 : (zoneL z).length = z.eras.length := by simp [zoneL]
    simp only [List.map_cons, List.flatten_cons, List.length_append, List.length_cons]
    omega
/-- what is wanted so far -/
structure WtIs (Wt : ByteArray) (outs : List (List UInt8)) : Prop where
  eq : Wt.data.toList = linesT outs
  le : LenLe 20000 outs
  few : outs.length ≤ 2000
theorem WtIs.size {Wt : ByteArray} {outs : List (List UInt8)} (h : WtIs Wt outs) : Wt.size ≤ 40002000 := by
  have h1 := lines_len 20000 outs h.le
  have h2 : outs.length * (20000 + 1) ≤ 2000 * 20001 := Nat.mul_le_mul h.few (Nat.le_refl _)
  have h3 : Wt.size = (linesT outs).length := by rw [← h.eq]; simp
  omega
theorem WtIs.snoc {Wt q : ByteArray} {outs : List (List UInt8)} (h : WtIs Wt outs) (hq : q.size ≤ 20000) (hn : outs.length < 2000) : WtIs (Wt ++ q ++ ⟨#[10]⟩) (outs ++ [q.data.toList]) :=
  ⟨by rw [linesT_snoc, ← h.eq]; simp [ByteArray.data_append], fun a ha => by
    rcases List.mem_append.1 ha with ha | ha
    · exact h.le a ha
    · rw [List.mem_singleton] at ha; subst ha; simpa using hq, by rw [List.length_append]; simp; omega⟩
theorem catS_right {a b : SourceP} (h1 : SrcRight a) (h2 : SrcRight b) : SrcRight (catS a b) :=
  ⟨fun x hx => (List.mem_append.1 hx).elim (h1.rules x) (h2.rules x), fun x hx => (List.mem_append.1 hx).elim (h1.zones x) (h2.zones x), fun x hx => (List.mem_append.1 hx).elim (h1.links x) (h2.links x), fun x hx => (List.mem_append.1 hx).elim (h1.shifts x) (h2.shifts x)⟩
theorem catS_small (d f : DraftP) : (catS (srcM d) (srcM f)).rules.length ≤ 24 ∧ (catS (srcM d) (srcM f)).zones.length ≤ 12 ∧ (catS (srcM d) (srcM f)).links.length ≤ 12 ∧ (catS (srcM d) (srcM f)).shifts.length ≤ 12 ∧ ∀ z ∈ (catS (srcM d) (srcM f)).zones, z.eras.length ≤ 4 := by
  obtain ⟨h1, h2, h3, h4, h5⟩ := srcM_small d
  obtain ⟨k1, k2, k3, k4, k5⟩ := srcM_small f
  simp only [catS, List.length_append]
  exact ⟨by omega, by omega, by omega, by omega, fun z hz => (List.mem_append.1 hz).elim (h5 z) (k5 z)⟩

set_option maxRecDepth 100000 in
set_option maxHeartbeats 4000000 in
theorem plines_any (va vb : Value) (d f : DraftP) (w : World) (ha : DraftV d va w) (hb : DraftV f vb w) (hT : ETabs w) (hR : RTabs w) :
    Calls Tryz.prog 5 #[va, vb] w fun e w' => e = .returned (.bool true) ∧ Below w.heap.size w w' := by
  have HTT := Lib.hid (fun W (hW : Below w.heap.size w W) => And.intro (hT.below hW) (hR.below hW))
  obtain ⟨irule, zrule, hirule, hzrule, hszrule, hbyrule, hzcrule⟩ := info_st (P := Tryz.prog) (e := 47) (k := 11) (by kernel_rfl)
  obtain ⟨izone, zzone, hizone, hzzone, hszzone, hbyzone, hzczone⟩ := info_st (P := Tryz.prog) (e := 50) (k := 2) (by kernel_rfl)
  obtain ⟨ilink, zlink, hilink, hzlink, hszlink, hbylink, hzclink⟩ := info_st (P := Tryz.prog) (e := 58) (k := 2) (by kernel_rfl)
  obtain ⟨istr, zstr, histr, hzstr, hszstr, hbystr, hzcstr⟩ := info_st (P := Tryz.prog) (e := 9) (k := 1) (by kernel_rfl)
  obtain ⟨p1, n1, c1, p2, n2, c2, p3, n3, c3, p4, n4, c4, p5, n5, c5, rfl⟩ := draft_slices ha
  obtain ⟨p1', n1', c1', p2', n2', c2', p3', n3', c3', p4', n4', c4', p5', n5', c5', rfl⟩ := draft_slices hb
  have hb0 : Below w.heap.size w ((w.alloc (.cells #[.slice p1 n1 c1, .slice p2 n2 c2, .slice p3 n3 c3, .slice p4 n4 c4, .slice p5 n5 c5] 39)).alloc (.cells #[.slice p1' n1' c1', .slice p2' n2' c2', .slice p3' n3' c3', .slice p4' n4' c4', .slice p5' n5' c5'] 39)) := ((Below.refl _ _).alloc (Nat.le_refl _) _).alloc (by simp) _
  have HS0 := Lib.hid (show D2 w d f #[.slice p1 n1 c1, .slice p2 n2 c2, .slice p3 n3 c3, .slice p4 n4 c4, .slice p5 n5 c5] #[.slice p1' n1' c1', .slice p2' n2' c2', .slice p3' n3' c3', .slice p4' n4' c4', .slice p5' n5' c5'] ((w.alloc (.cells #[.slice p1 n1 c1, .slice p2 n2 c2, .slice p3 n3 c3, .slice p4 n4 c4, .slice p5 n5 c5] 39)).alloc (.cells #[.slice p1' n1' c1', .slice p2' n2' c2', .slice p3' n3' c3', .slice p4' n4' c4', .slice p5' n5' c5'] 39)) from ⟨(Blk.new' _ _ _ rfl).alloc _, Blk.new' _ _ _ (by simp), ha.below hb0, hb.below hb0, hb0⟩)
  clear ha hb hb0 hT hR
  go_enter Tryz.func5, Tryz.ntmps5
  go_upto_region 1 with fail
  generalize (w.alloc (.cells #[.slice p1 n1 c1, .slice p2 n2 c2, .slice p3 n3 c3, .slice p4 n4 c4, .slice p5 n5 c5] 39)).alloc (.cells #[.slice p1' n1' c1', .slice p2' n2' c2', .slice p3' n3' c3', .slice p4' n4' c4', .slice p5' n5' c5'] 39) = w0 at *
  refine wp_region_rels 6 [[], [], [], [], [], []] [Form.val, Form.rel (SOV w.heap.size (srcM d)), Form.val, Form.rel (SOV w.heap.size (srcM f)), Form.new (NewS w.heap.size), Form.new (NewS w.heap.size)] (fun W => D2 w d f #[.slice p1 n1 c1, .slice p2 n2 c2, .slice p3 n3 c3, .slice p4 n4 c4, .slice p5 n5 c5] #[.slice p1' n1' c1', .slice p2' n2' c2', .slice p3' n3' c3', .slice p4' n4' c4', .slice p5' n5' c5'] W) (by kernel_rfl) (by kernel_rfl) rfl rfl (HS0.out.below (Below.refl _ _).drew) (fun W W2 k hb => k.below hb) ⟨SOV.last _ _, SOV.last _ _, NewS.last _, NewS.last _, trivial⟩ ?_
  repeat (first | apply exSpec_rel | apply exSpec_new | apply exSpec_val)
  apply relWalk_ex rfl ?o0 (fun K hK => ?n0)
  case o0 =>
    intro W hC hF
    exact relAt_load 39 (.tmp 2) rfl w.heap.size rfl 39 #[.slice p1 n1 c1, .slice p2 n2 c2, .slice p3 n3 c3, .slice p4 n4 c4, .slice p5 n5 c5] _ hC.1 Tryz.underlying39 rfl (by kernel_rfl)
  case' n0 =>
    go_simp
    refine hK _ ?_
    clear hK K
  apply relWalk_rel rfl ?o1 (fun u1 K hK => ?n1)
  case o1 =>
    intro W hC hF
    go_simp
    all_goals exact (made14_src hC.2.2.1 hC.2.2.2.2.size).mono fun e w2 ⟨⟨v2, he, ho⟩, hb⟩ => ⟨v2, he, hb, ho⟩
  case' n1 =>
    go_simp
    refine hK _ ?_
    clear hK K
  apply relWalk_ex rfl ?o2 (fun K hK => ?n2)
  case o2 =>
    intro W hC hF
    exact relAt_load 39 (.tmp 3) rfl (w.heap.size + 1) rfl 39 #[.slice p1' n1' c1', .slice p2' n2' c2', .slice p3' n3' c3', .slice p4' n4' c4', .slice p5' n5' c5'] _ hC.2.1 Tryz.underlying39 rfl (by kernel_rfl)
  case' n2 =>
    go_simp
    refine hK _ ?_
    clear hK K
  apply relWalk_rel rfl ?o3 (fun u3 K hK => ?n3)
  case o3 =>
    intro W hC hF
    go_simp
    all_goals exact (made14_src hC.2.2.2.1 hC.2.2.2.2.size).mono fun e w2 ⟨⟨v2, he, ho⟩, hb⟩ => ⟨v2, he, hb, ho⟩
  case' n3 =>
    go_simp
    refine hK _ ?_
    clear hK K
  apply relWalk_new rfl ?o4 (fun u4 K hK => ?n4)
  case o4 =>
    intro W hC hF
    go_simp
    all_goals exact ⟨(Below.refl _ _).alloc (Nat.le_refl _) _, ⟨_, rfl, Blk.new' _ _ _ rfl, hC.2.2.2.2.size⟩, W.heap.size, rfl, Nat.le_refl _, by simp⟩
  case' n4 =>
    go_simp
    refine hK _ ?_
    clear hK K
  apply relWalk_new rfl ?o5 (fun u5 K hK => ?n5)
  case o5 =>
    intro W hC hF
    go_simp
    all_goals exact ⟨(Below.refl _ _).alloc (Nat.le_refl _) _, ⟨_, rfl, Blk.new' _ _ _ rfl, hC.2.2.2.2.size⟩, W.heap.size, rfl, Nat.le_refl _, by simp⟩
  case' n5 =>
    go_simp
    refine hK _ ?_
    clear hK K
  apply relWalk_end
  intro W hC hF hU
  obtain ⟨⟨gb, rfl, hgb, hgeb⟩, ⟨ga, rfl, hga, hgea⟩, ⟨b1, b2, b3, b4, cb, rfl, hcb, hsb⟩, ⟨a1, a2, a3, a4, ca, rfl, hca, hsa⟩, -⟩ := hF
  have hab : ga ≠ gb := by
    have := (List.pairwise_cons.1 hU).1 _ (List.mem_singleton.2 rfl)
    intro h; subst h; exact this rfl
  obtain ⟨qa1, da1, rfl⟩ := own_form hsa.rule
  obtain ⟨qa2, da2, rfl⟩ := own_form hsa.zone
  obtain ⟨qa3, da3, rfl⟩ := own_form hsa.link
  obtain ⟨qa4, da4, rfl⟩ := own_form hsa.str
  obtain ⟨qb1, db1, rfl⟩ := own_form hsb.rule
  obtain ⟨qb2, db2, rfl⟩ := own_form hsb.zone
  obtain ⟨qb3, db3, rfl⟩ := own_form hsb.link
  obtain ⟨qb4, db4, rfl⟩ := own_form hsb.str
  have sa0 := hga.cell_ (i := 0) rfl
  have fa0 := hga.frozen 0
  have sa1 := hga.cell_ (i := 1) rfl
  have fa1 := hga.frozen 1
  have sa2 := hga.cell_ (i := 2) rfl
  have fa2 := hga.frozen 2
  have sa3 := hga.cell_ (i := 3) rfl
  have fa3 := hga.frozen 3
  have sb0 := hgb.cell_ (i := 0) rfl
  have fb0 := hgb.frozen 0
  have sb1 := hgb.cell_ (i := 1) rfl
  have fb1 := hgb.frozen 1
  have sb2 := hgb.cell_ (i := 2) rfl
  have fb2 := hgb.frozen 2
  have sb3 := hgb.cell_ (i := 3) rfl
  have fb3 := hgb.frozen 3
  have HS1 := Lib.hid (And.intro hga (And.intro hgb (And.intro hsa (And.intro hsb hC.2.2.2.2))))
  have HCA := Lib.hid hca
  have HCB := Lib.hid hcb
  clear hU hC hga hgb hsa hsb HS0 hca hcb
  go_upto_region 2 with fail
  have HW1 := Lib.hid (show Blk ((((((((W.setCell ⟨ga, 0, none⟩ (.slice qa1 (srcM d).rules.length da1)).setCell ⟨ga, 1, none⟩ (.slice qa2 ca.length da2)).setCell ⟨ga, 2, none⟩ (.slice qa3 (srcM d).links.length da3)).setCell ⟨ga, 3, none⟩ (.slice qa4 (srcM d).shifts.length da4)).setCell ⟨gb, 0, none⟩ (.slice qb1 (srcM f).rules.length db1)).setCell ⟨gb, 1, none⟩ (.slice qb2 cb.length db2)).setCell ⟨gb, 2, none⟩ (.slice qb3 (srcM f).links.length db3)).setCell ⟨gb, 3, none⟩ (.slice qb4 (srcM f).shifts.length db4)) ga 27 #[.slice qa1 (srcM d).rules.length da1, .slice qa2 ca.length da2, .slice qa3 (srcM d).links.length da3, .slice qa4 (srcM d).shifts.length da4] ∧ Blk ((((((((W.setCell ⟨ga, 0, none⟩ (.slice qa1 (srcM d).rules.length da1)).setCell ⟨ga, 1, none⟩ (.slice qa2 ca.length da2)).setCell ⟨ga, 2, none⟩ (.slice qa3 (srcM d).links.length da3)).setCell ⟨ga, 3, none⟩ (.slice qa4 (srcM d).shifts.length da4)).setCell ⟨gb, 0, none⟩ (.slice qb1 (srcM f).rules.length db1)).setCell ⟨gb, 1, none⟩ (.slice qb2 cb.length db2)).setCell ⟨gb, 2, none⟩ (.slice qb3 (srcM f).links.length db3)).setCell ⟨gb, 3, none⟩ (.slice qb4 (srcM f).shifts.length db4)) gb 27 #[.slice qb1 (srcM f).rules.length db1, .slice qb2 cb.length db2, .slice qb3 (srcM f).links.length db3, .slice qb4 (srcM f).shifts.length db4] ∧ SO w.heap.size (srcM d).rules ca (srcM d).links (srcM d).shifts (.slice qa1 (srcM d).rules.length da1) (.slice qa2 ca.length da2) (.slice qa3 (srcM d).links.length da3) (.slice qa4 (srcM d).shifts.length da4) ((((((((W.setCell ⟨ga, 0, none⟩ (.slice qa1 (srcM d).rules.length da1)).setCell ⟨ga, 1, none⟩ (.slice qa2 ca.length da2)).setCell ⟨ga, 2, none⟩ (.slice qa3 (srcM d).links.length da3)).setCell ⟨ga, 3, none⟩ (.slice qa4 (srcM d).shifts.length da4)).setCell ⟨gb, 0, none⟩ (.slice qb1 (srcM f).rules.length db1)).setCell ⟨gb, 1, none⟩ (.slice qb2 cb.length db2)).setCell ⟨gb, 2, none⟩ (.slice qb3 (srcM f).links.length db3)).setCell ⟨gb, 3, none⟩ (.slice qb4 (srcM f).shifts.length db4)) ∧ SO w.heap.size (srcM f).rules cb (srcM f).links (srcM f).shifts (.slice qb1 (srcM f).rules.length db1) (.slice qb2 cb.length db2) (.slice qb3 (srcM f).links.length db3) (.slice qb4 (srcM f).shifts.length db4) ((((((((W.setCell ⟨ga, 0, none⟩ (.slice qa1 (srcM d).rules.length da1)).setCell ⟨ga, 1, none⟩ (.slice qa2 ca.length da2)).setCell ⟨ga, 2, none⟩ (.slice qa3 (srcM d).links.length da3)).setCell ⟨ga, 3, none⟩ (.slice qa4 (srcM d).shifts.length da4)).setCell ⟨gb, 0, none⟩ (.slice qb1 (srcM f).rules.length db1)).setCell ⟨gb, 1, none⟩ (.slice qb2 cb.length db2)).setCell ⟨gb, 2, none⟩ (.slice qb3 (srcM f).links.length db3)).setCell ⟨gb, 3, none⟩ (.slice qb4 (srcM f).shifts.length db4)) ∧ Below w.heap.size w ((((((((W.setCell ⟨ga, 0, none⟩ (.slice qa1 (srcM d).rules.length da1)).setCell ⟨ga, 1, none⟩ (.slice qa2 ca.length da2)).setCell ⟨ga, 2, none⟩ (.slice qa3 (srcM d).links.length da3)).setCell ⟨ga, 3, none⟩ (.slice qa4 (srcM d).shifts.length da4)).setCell ⟨gb, 0, none⟩ (.slice qb1 (srcM f).rules.length db1)).setCell ⟨gb, 1, none⟩ (.slice qb2 cb.length db2)).setCell ⟨gb, 2, none⟩ (.slice qb3 (srcM f).links.length db3)).setCell ⟨gb, 3, none⟩ (.slice qb4 (srcM f).shifts.length db4)) from by
    obtain ⟨hga, hgb, hsa, hsb, hbw⟩ := HS1.out
    have A0 := hga.set_ 0 (.slice qa1 (srcM d).rules.length da1)
    have A1 := A0.set_ 1 (.slice qa2 ca.length da2)
    have A2 := A1.set_ 2 (.slice qa3 (srcM d).links.length da3)
    have A3 := A2.set_ 3 (.slice qa4 (srcM d).shifts.length da4)
    have hba : gb ≠ ga := fun h => hab h.symm
    have B := (((hgb.far (p := ⟨ga, 0, none⟩) hba (.slice qa1 (srcM d).rules.length da1)).far (p := ⟨ga, 1, none⟩) hba (.slice qa2 ca.length da2)).far (p := ⟨ga, 2, none⟩) hba (.slice qa3 (srcM d).links.length da3)).far (p := ⟨ga, 3, none⟩) hba (.slice qa4 (srcM d).shifts.length da4)
    have B0 := B.set_ 0 (.slice qb1 (srcM f).rules.length db1)
    have B1 := B0.set_ 1 (.slice qb2 cb.length db2)
    have B2 := B1.set_ 2 (.slice qb3 (srcM f).links.length db3)
    have B3 := B2.set_ 3 (.slice qb4 (srcM f).shifts.length db4)
    have hl : w.heap.size ≤ ga := hgea
    have hl2 : w.heap.size ≤ gb := hgeb
    exact ⟨(((A3.far hab (.slice qb1 (srcM f).rules.length db1)).far hab (.slice qb2 cb.length db2)).far hab (.slice qb3 (srcM f).links.length db3)).far hab (.slice qb4 (srcM f).shifts.length db4), B3, ((((((((hsa.far (j := 0) hga (.slice qa1 (srcM d).rules.length da1)).far (j := 1) A0 (.slice qa2 ca.length da2)).far (j := 2) A1 (.slice qa3 (srcM d).links.length da3)).far (j := 3) A2 (.slice qa4 (srcM d).shifts.length da4)).far (j := 0) B (.slice qb1 (srcM f).rules.length db1)).far (j := 1) B0 (.slice qb2 cb.length db2)).far (j := 2) B1 (.slice qb3 (srcM f).links.length db3)).far (j := 3) B2 (.slice qb4 (srcM f).shifts.length db4)), ((((((((hsb.far (j := 0) hga (.slice qa1 (srcM d).rules.length da1)).far (j := 1) A0 (.slice qa2 ca.length da2)).far (j := 2) A1 (.slice qa3 (srcM d).links.length da3)).far (j := 3) A2 (.slice qa4 (srcM d).shifts.length da4)).far (j := 0) B (.slice qb1 (srcM f).rules.length db1)).far (j := 1) B0 (.slice qb2 cb.length db2)).far (j := 2) B1 (.slice qb3 (srcM f).links.length db3)).far (j := 3) B2 (.slice qb4 (srcM f).shifts.length db4)), (((((((hbw.setCell hl _).setCell hl _).setCell hl _).setCell hl _).setCell hl2 _).setCell hl2 _).setCell hl2 _).setCell hl2 _⟩)
  clear HS1 hab sa0 fa0 sa1 fa1 sa2 fa2 sa3 fa3 sb0 fb0 sb1 fb1 sb2 fb2 sb3 fb3
  generalize ((((((((W.setCell ⟨ga, 0, none⟩ (.slice qa1 (srcM d).rules.length da1)).setCell ⟨ga, 1, none⟩ (.slice qa2 ca.length da2)).setCell ⟨ga, 2, none⟩ (.slice qa3 (srcM d).links.length da3)).setCell ⟨ga, 3, none⟩ (.slice qa4 (srcM d).shifts.length da4)).setCell ⟨gb, 0, none⟩ (.slice qb1 (srcM f).rules.length db1)).setCell ⟨gb, 1, none⟩ (.slice qb2 cb.length db2)).setCell ⟨gb, 2, none⟩ (.slice qb3 (srcM f).links.length db3)).setCell ⟨gb, 3, none⟩ (.slice qb4 (srcM f).shifts.length db4)) = w1 at *
  obtain ⟨L, hL⟩ : ∃ L, w1.heap.size = L := ⟨_, rfl⟩
  have HA1 := Lib.hid (show ∀ W, Below L w1 W → (W.cell? ⟨ga, 0, none⟩ = some (.slice qa1 (srcM d).rules.length da1) ∧ W.cell? ⟨ga, 1, none⟩ = some (.slice qa2 ca.length da2) ∧ W.cell? ⟨ga, 2, none⟩ = some (.slice qa3 (srcM d).links.length da3) ∧ W.cell? ⟨ga, 3, none⟩ = some (.slice qa4 (srcM d).shifts.length da4)) from fun W hW => by
    have h := HW1.out.1.below (hL ▸ hW) HW1.out.1.lt
    exact ⟨h.cell_ rfl, h.cell_ rfl, h.cell_ rfl, h.cell_ rfl⟩)
  have HB1 := Lib.hid (show ∀ W, Below L w1 W → (W.cell? ⟨gb, 0, none⟩ = some (.slice qb1 (srcM f).rules.length db1) ∧ W.cell? ⟨gb, 1, none⟩ = some (.slice qb2 cb.length db2) ∧ W.cell? ⟨gb, 2, none⟩ = some (.slice qb3 (srcM f).links.length db3) ∧ W.cell? ⟨gb, 3, none⟩ = some (.slice qb4 (srcM f).shifts.length db4)) from fun W hW => by
    have h := HW1.out.2.1.below (hL ▸ hW) HW1.out.2.1.lt
    exact ⟨h.cell_ rfl, h.cell_ rfl, h.cell_ rfl, h.cell_ rfl⟩)
  obtain ⟨ka1, ka2, ka3, ka4, ka5⟩ := srcM_small d
  obtain ⟨kb1, kb2, kb3, kb4, kb5⟩ := srcM_small f
  have kca : ca.length ≤ 6 := by rw [← HCA.out, List.length_map] at ka2; exact ka2
  have kcb : cb.length ≤ 6 := by rw [← HCB.out, List.length_map] at kb2; exact kb2
  have HRa_rule := Lib.hid (hL ▸ RowsAt.reads (k := 11) (by decide) (fun x => (rule_cells x).1) (rows_of_own (k := 11) (by decide) (fun x => (rule_cells x).1) HW1.out.2.2.1.rule))
  have HRb_rule := Lib.hid (hL ▸ RowsAt.reads (k := 11) (by decide) (fun x => (rule_cells x).1) (rows_of_own (k := 11) (by decide) (fun x => (rule_cells x).1) HW1.out.2.2.2.1.rule))
  have HOa_rule := Lib.hid (show ∀ u ∈ flatC RuleP.cells (srcM d).rules, u.oneCell' = true from flatC_one (fun x => (rule_cells x).2) _)
  have HOb_rule := Lib.hid (show ∀ u ∈ flatC RuleP.cells (srcM f).rules, u.oneCell' = true from flatC_one (fun x => (rule_cells x).2) _)
  have HLa_rule := Lib.hid (show (srcM d).rules.length ≤ 1048576 from by omega)
  have HLb_rule := Lib.hid (show (srcM f).rules.length ≤ 1048576 from by omega)
  have HRa_zone := Lib.hid (hL ▸ RowsAt.reads (k := 2) (by decide) (fun x => (zone_cells x).1) (rows_of_own (k := 2) (by decide) (fun x => (zone_cells x).1) HW1.out.2.2.1.zone))
  have HRb_zone := Lib.hid (hL ▸ RowsAt.reads (k := 2) (by decide) (fun x => (zone_cells x).1) (rows_of_own (k := 2) (by decide) (fun x => (zone_cells x).1) HW1.out.2.2.2.1.zone))
  have HOa_zone := Lib.hid (show ∀ u ∈ flatC encZV ca, u.oneCell' = true from flatC_one (fun x => (zone_cells x).2) _)
  have HOb_zone := Lib.hid (show ∀ u ∈ flatC encZV cb, u.oneCell' = true from flatC_one (fun x => (zone_cells x).2) _)
  have HLa_zone := Lib.hid (show ca.length ≤ 1048576 from by omega)
  have HLb_zone := Lib.hid (show cb.length ≤ 1048576 from by omega)
  have HRa_link := Lib.hid (hL ▸ RowsAt.reads (k := 2) (by decide) (fun x => (link_cells x).1) (rows_of_own (k := 2) (by decide) (fun x => (link_cells x).1) HW1.out.2.2.1.link))
  have HRb_link := Lib.hid (hL ▸ RowsAt.reads (k := 2) (by decide) (fun x => (link_cells x).1) (rows_of_own (k := 2) (by decide) (fun x => (link_cells x).1) HW1.out.2.2.2.1.link))
  have HOa_link := Lib.hid (show ∀ u ∈ flatC LinkP.cells (srcM d).links, u.oneCell' = true from flatC_one (fun x => (link_cells x).2) _)
  have HOb_link := Lib.hid (show ∀ u ∈ flatC LinkP.cells (srcM f).links, u.oneCell' = true from flatC_one (fun x => (link_cells x).2) _)
  have HLa_link := Lib.hid (show (srcM d).links.length ≤ 1048576 from by omega)
  have HLb_link := Lib.hid (show (srcM f).links.length ≤ 1048576 from by omega)
  have HRa_str := Lib.hid (hL ▸ RowsAt.reads (k := 1) (by decide) (fun x => rfl) (rows_of_own (k := 1) (by decide) (fun x => rfl) HW1.out.2.2.1.str))
  have HRb_str := Lib.hid (hL ▸ RowsAt.reads (k := 1) (by decide) (fun x => rfl) (rows_of_own (k := 1) (by decide) (fun x => rfl) HW1.out.2.2.2.1.str))
  have HOa_str := Lib.hid (show ∀ u ∈ flatC encS (srcM d).shifts, u.oneCell' = true from flatC_one (fun x => by simp [encS, Value.oneCell']) _)
  have HOb_str := Lib.hid (show ∀ u ∈ flatC encS (srcM f).shifts, u.oneCell' = true from flatC_one (fun x => by simp [encS, Value.oneCell']) _)
  have HLa_str := Lib.hid (show (srcM d).shifts.length ≤ 1048576 from by omega)
  have HLb_str := Lib.hid (show (srcM f).shifts.length ≤ 1048576 from by omega)
  clear ka1 ka2 ka3 ka4 ka5 kb1 kb2 kb3 kb4 kb5 kca kcb
  refine wp_region_relsT 30 [[], [], [], [0], [], [], [3], [], [], [], [7], [], [], [10], [], [], [], [14], [], [], [17], [], [], [], [21], [], [], [24], [27, 20, 13, 6], []] [Form.rel (Nil0 47 11 L), Form.val, Form.val, Form.rel (OwnR 47 11 L (srcM d).rules.length (flatC RuleP.cells (srcM d).rules)), Form.val, Form.val, Form.rel (OwnR 47 11 L ((srcM d).rules.length + (srcM f).rules.length) (flatC RuleP.cells (srcM d).rules ++ flatC RuleP.cells (srcM f).rules)), Form.rel (Nil0 50 2 L), Form.val, Form.val, Form.rel (OwnR 50 2 L ca.length (flatC encZV ca)), Form.val, Form.val, Form.rel (OwnR 50 2 L (ca.length + cb.length) (flatC encZV ca ++ flatC encZV cb)), Form.rel (Nil0 58 2 L), Form.val, Form.val, Form.rel (OwnR 58 2 L (srcM d).links.length (flatC LinkP.cells (srcM d).links)), Form.val, Form.val, Form.rel (OwnR 58 2 L ((srcM d).links.length + (srcM f).links.length) (flatC LinkP.cells (srcM d).links ++ flatC LinkP.cells (srcM f).links)), Form.rel (Nil0 9 1 L), Form.val, Form.val, Form.rel (OwnR 9 1 L (srcM d).shifts.length (flatC encS (srcM d).shifts)), Form.val, Form.val, Form.rel (OwnR 9 1 L ((srcM d).shifts.length + (srcM f).shifts.length) (flatC encS (srcM d).shifts ++ flatC encS (srcM f).shifts)), Form.rel (Src4 L (srcM d) (srcM f) ca cb), Form.new (NewS L)] (fun W => Below L w1 W) (R4 L (srcM d).rules.length ca.length (srcM d).links.length (srcM d).shifts.length) (by kernel_rfl) (by kernel_rfl) rfl rfl (by rw [← hL]; exact (Below.refl _ _).drew) (fun i w => R4.refl _ _ _ _ _ i w) (fun i w w' h => R4.size h) (fun i w w' hc h => hc.trans (R4.low h (by rw [← hL]; exact hc.size))) ⟨fun i hi hw u w w' hR h => ⟨R4.own hR h.1 (fun _ => .inr ⟨rfl, rfl, Nat.zero_le _⟩) (fun _ => .inl (by decide)) (fun _ => .inl (by decide)) (fun _ => .inl (by decide)), by obtain ⟨g, h1, h2, h3⟩ := h.2; exact ⟨g, h1, Nat.lt_of_lt_of_le h2 hR.size, h3⟩⟩, fun i hi hw u w w' hR h => R4.own hR h (fun _ => .inr ⟨rfl, rfl, Nat.le_refl _⟩) (fun _ => .inl (by decide)) (fun _ => .inl (by decide)) (fun _ => .inl (by decide)), fun i hi hw u w w' hR h => R4.own hR h (fun h => absurd h hi) (fun _ => .inl (by decide)) (fun _ => .inl (by decide)) (fun _ => .inl (by decide)), fun i hi hw u w w' hR h => ⟨R4.own hR h.1 (fun _ => .inl (by decide)) (fun _ => .inr ⟨rfl, rfl, Nat.zero_le _⟩) (fun _ => .inl (by decide)) (fun _ => .inl (by decide)), by obtain ⟨g, h1, h2, h3⟩ := h.2; exact ⟨g, h1, Nat.lt_of_lt_of_le h2 hR.size, h3⟩⟩, fun i hi hw u w w' hR h => R4.own hR h (fun _ => .inl (by decide)) (fun _ => .inr ⟨rfl, rfl, Nat.le_refl _⟩) (fun _ => .inl (by decide)) (fun _ => .inl (by decide)), fun i hi hw u w w' hR h => R4.own hR h (fun _ => .inl (by decide)) (fun h => absurd h hi) (fun _ => .inl (by decide)) (fun _ => .inl (by decide)), fun i hi hw u w w' hR h => ⟨R4.own hR h.1 (fun _ => .inl (by decide)) (fun _ => .inl (by decide)) (fun _ => .inr ⟨rfl, rfl, Nat.zero_le _⟩) (fun _ => .inl (by decide)), by obtain ⟨g, h1, h2, h3⟩ := h.2; exact ⟨g, h1, Nat.lt_of_lt_of_le h2 hR.size, h3⟩⟩, fun i hi hw u w w' hR h => R4.own hR h (fun _ => .inl (by decide)) (fun _ => .inl (by decide)) (fun _ => .inr ⟨rfl, rfl, Nat.le_refl _⟩) (fun _ => .inl (by decide)), fun i hi hw u w w' hR h => R4.own hR h (fun _ => .inl (by decide)) (fun _ => .inl (by decide)) (fun h => absurd h hi) (fun _ => .inl (by decide)), fun i hi hw u w w' hR h => ⟨R4.own hR h.1 (fun _ => .inl (by decide)) (fun _ => .inl (by decide)) (fun _ => .inl (by decide)) (fun _ => .inr ⟨rfl, rfl, Nat.zero_le _⟩), by obtain ⟨g, h1, h2, h3⟩ := h.2; exact ⟨g, h1, Nat.lt_of_lt_of_le h2 hR.size, h3⟩⟩, fun i hi hw u w w' hR h => R4.own hR h (fun _ => .inl (by decide)) (fun _ => .inl (by decide)) (fun _ => .inl (by decide)) (fun _ => .inr ⟨rfl, rfl, Nat.le_refl _⟩), fun i hi hw u w w' hR h => R4.own hR h (fun _ => .inl (by decide)) (fun _ => .inl (by decide)) (fun _ => .inl (by decide)) (fun h => absurd h hi), fun i hi hw u w w' hR ⟨a1, a2, a3, a4, he, h1, h2, h3, h4⟩ => ⟨a1, a2, a3, a4, he, R4.own hR h1 (fun h => by subst h; exact absurd hw (by decide +kernel)) (fun _ => .inl (by decide)) (fun _ => .inl (by decide)) (fun _ => .inl (by decide)), R4.own hR h2 (fun _ => .inl (by decide)) (fun h => by subst h; exact absurd hw (by decide +kernel)) (fun _ => .inl (by decide)) (fun _ => .inl (by decide)), R4.own hR h3 (fun _ => .inl (by decide)) (fun _ => .inl (by decide)) (fun h => by subst h; exact absurd hw (by decide +kernel)) (fun _ => .inl (by decide)), R4.own hR h4 (fun _ => .inl (by decide)) (fun _ => .inl (by decide)) (fun _ => .inl (by decide)) (fun h => by subst h; exact absurd hw (by decide +kernel))⟩, fun i hi hw u w w' hR ⟨g, h1, h2, h3⟩ => ⟨g, h1, hR.blk h2, h3⟩, trivial⟩ ?_
  repeat (first | apply exSpec_rel | apply exSpec_new | apply exSpec_val)
  apply relWalkT_rel rfl rfl ?oq0 (fun u0 K hK => ?nq0)
  case oq0 =>
    intro W hC hF
    have hLW := hC.size
    rw [hL] at hLW
    go_simp
    refine ⟨(Below.refl _ _).alloc (Nat.le_refl _) _, ?_⟩
    exact Nil0.made W hLW
  case' nq0 =>
    go_simp
    refine hK _ ?_
    clear hK K
  apply relWalkT_ex rfl rfl ?oq1 (fun K hK => ?nq1)
  case oq1 =>
    intro W hC hF
    have sa0 := HA1.out W hC
    have sb0 := HB1.out W hC
    obtain ⟨a0, a1, a2, a3⟩ := sa0
    obtain ⟨b0, b1, b2, b3⟩ := sb0
    go_simp
    all_goals first | exact ⟨Below.refl _ _, rfl⟩ | exact Below.refl _ _
  case' nq1 =>
    go_simp
    refine hK _ ?_
    clear hK K
  apply relWalkT_ex rfl rfl ?oq2 (fun K hK => ?nq2)
  case oq2 =>
    intro W hC hF
    have sa0 := HA1.out W hC
    have sb0 := HB1.out W hC
    obtain ⟨a0, a1, a2, a3⟩ := sa0
    obtain ⟨b0, b1, b2, b3⟩ := sb0
    go_simp
    all_goals first | exact ⟨Below.refl _ _, rfl⟩ | exact Below.refl _ _
  case' nq2 =>
    go_simp
    refine hK _ ?_
    clear hK K
  apply relWalkT_rel rfl rfl ?oq3 (fun u3 K hK => ?nq3)
  case oq3 =>
    intro W hC hF
    exact relAt_append0 rfl L irule zrule 11 Tryz.underlying22 hirule hzrule hszrule hbyrule hzcrule (by decide) u0 rfl hF.1 L _ _ _ (flatC RuleP.cells (srcM d).rules) rfl ((HRa_rule.out).below hC) HOa_rule.out HLa_rule.out
  case' nq3 =>
    go_simp
    refine hK _ ?_
    clear hK K
  apply relWalkT_ex rfl rfl ?oq4 (fun K hK => ?nq4)
  case oq4 =>
    intro W hC hF
    have sa0 := HA1.out W hC
    have sb0 := HB1.out W hC
    obtain ⟨a0, a1, a2, a3⟩ := sa0
    obtain ⟨b0, b1, b2, b3⟩ := sb0
    go_simp
    all_goals first | exact ⟨Below.refl _ _, rfl⟩ | exact Below.refl _ _
  case' nq4 =>
    go_simp
    refine hK _ ?_
    clear hK K
  apply relWalkT_ex rfl rfl ?oq5 (fun K hK => ?nq5)
  case oq5 =>
    intro W hC hF
    have sa0 := HA1.out W hC
    have sb0 := HB1.out W hC
    obtain ⟨a0, a1, a2, a3⟩ := sa0
    obtain ⟨b0, b1, b2, b3⟩ := sb0
    go_simp
    all_goals first | exact ⟨Below.refl _ _, rfl⟩ | exact Below.refl _ _
  case' nq5 =>
    go_simp
    refine hK _ ?_
    clear hK K
  apply relWalkT_wr rfl rfl ?oq6 (fun u6 K hK => ?nq6)
  case oq6 =>
    intro W hC hF
    have hLW := hC.size
    rw [hL] at hLW
    exact relAtR_more rfl L irule zrule 11 Tryz.underlying22 hirule hzrule hszrule hbyrule hzcrule (by decide) u3 (srcM d).rules.length (flatC RuleP.cells (srcM d).rules) rfl hF.1 L _ _ _ (flatC RuleP.cells (srcM f).rules) rfl ((HRb_rule.out).below hC) HOb_rule.out HLa_rule.out HLb_rule.out hLW
  case' nq6 =>
    go_simp
    refine hK _ ?_
    clear hK K
  apply relWalkT_rel rfl rfl ?oq7 (fun u7 K hK => ?nq7)
  case oq7 =>
    intro W hC hF
    have hLW := hC.size
    rw [hL] at hLW
    go_simp
    refine ⟨(Below.refl _ _).alloc (Nat.le_refl _) _, ?_⟩
    exact Nil0.made W hLW
  case' nq7 =>
    go_simp
    refine hK _ ?_
    clear hK K
  apply relWalkT_ex rfl rfl ?oq8 (fun K hK => ?nq8)
  case oq8 =>
    intro W hC hF
    have sa0 := HA1.out W hC
    have sb0 := HB1.out W hC
    obtain ⟨a0, a1, a2, a3⟩ := sa0
    obtain ⟨b0, b1, b2, b3⟩ := sb0
    go_simp
    all_goals first | exact ⟨Below.refl _ _, rfl⟩ | exact Below.refl _ _
  case' nq8 =>
    go_simp
    refine hK _ ?_
    clear hK K
  apply relWalkT_ex rfl rfl ?oq9 (fun K hK => ?nq9)
  case oq9 =>
    intro W hC hF
    have sa0 := HA1.out W hC
    have sb0 := HB1.out W hC
    obtain ⟨a0, a1, a2, a3⟩ := sa0
    obtain ⟨b0, b1, b2, b3⟩ := sb0
    go_simp
    all_goals first | exact ⟨Below.refl _ _, rfl⟩ | exact Below.refl _ _
  case' nq9 =>
    go_simp
    refine hK _ ?_
    clear hK K
  apply relWalkT_rel rfl rfl ?oq10 (fun u10 K hK => ?nq10)
  case oq10 =>
    intro W hC hF
    exact relAt_append0 rfl L izone zzone 2 Tryz.underlying23 hizone hzzone hszzone hbyzone hzczone (by decide) u7 rfl hF.1 L _ _ _ (flatC encZV ca) rfl ((HRa_zone.out).below hC) HOa_zone.out HLa_zone.out
  case' nq10 =>
    go_simp
    refine hK _ ?_
    clear hK K
  apply relWalkT_ex rfl rfl ?oq11 (fun K hK => ?nq11)
  case oq11 =>
    intro W hC hF
    have sa0 := HA1.out W hC
    have sb0 := HB1.out W hC
    obtain ⟨a0, a1, a2, a3⟩ := sa0
    obtain ⟨b0, b1, b2, b3⟩ := sb0
    go_simp
    all_goals first | exact ⟨Below.refl _ _, rfl⟩ | exact Below.refl _ _
  case' nq11 =>
    go_simp
    refine hK _ ?_
    clear hK K
  apply relWalkT_ex rfl rfl ?oq12 (fun K hK => ?nq12)
  case oq12 =>
    intro W hC hF
    have sa0 := HA1.out W hC
    have sb0 := HB1.out W hC
    obtain ⟨a0, a1, a2, a3⟩ := sa0
    obtain ⟨b0, b1, b2, b3⟩ := sb0
    go_simp
    all_goals first | exact ⟨Below.refl _ _, rfl⟩ | exact Below.refl _ _
  case' nq12 =>
    go_simp
    refine hK _ ?_
    clear hK K
  apply relWalkT_wr rfl rfl ?oq13 (fun u13 K hK => ?nq13)
  case oq13 =>
    intro W hC hF
    have hLW := hC.size
    rw [hL] at hLW
    exact relAtR_more rfl L izone zzone 2 Tryz.underlying23 hizone hzzone hszzone hbyzone hzczone (by decide) u10 ca.length (flatC encZV ca) rfl hF.1 L _ _ _ (flatC encZV cb) rfl ((HRb_zone.out).below hC) HOb_zone.out HLa_zone.out HLb_zone.out hLW
  case' nq13 =>
    go_simp
    refine hK _ ?_
    clear hK K
  apply relWalkT_rel rfl rfl ?oq14 (fun u14 K hK => ?nq14)
  case oq14 =>
    intro W hC hF
    have hLW := hC.size
    rw [hL] at hLW
    go_simp
    refine ⟨(Below.refl _ _).alloc (Nat.le_refl _) _, ?_⟩
    exact Nil0.made W hLW
  case' nq14 =>
    go_simp
    refine hK _ ?_
    clear hK K
  apply relWalkT_ex rfl rfl ?oq15 (fun K hK => ?nq15)
  case oq15 =>
    intro W hC hF
    have sa0 := HA1.out W hC
    have sb0 := HB1.out W hC
    obtain ⟨a0, a1, a2, a3⟩ := sa0
    obtain ⟨b0, b1, b2, b3⟩ := sb0
    go_simp
    all_goals first | exact ⟨Below.refl _ _, rfl⟩ | exact Below.refl _ _
  case' nq15 =>
    go_simp
    refine hK _ ?_
    clear hK K
  apply relWalkT_ex rfl rfl ?oq16 (fun K hK => ?nq16)
  case oq16 =>
    intro W hC hF
    have sa0 := HA1.out W hC
    have sb0 := HB1.out W hC
    obtain ⟨a0, a1, a2, a3⟩ := sa0
    obtain ⟨b0, b1, b2, b3⟩ := sb0
    go_simp
    all_goals first | exact ⟨Below.refl _ _, rfl⟩ | exact Below.refl _ _
  case' nq16 =>
    go_simp
    refine hK _ ?_
    clear hK K
  apply relWalkT_rel rfl rfl ?oq17 (fun u17 K hK => ?nq17)
  case oq17 =>
    intro W hC hF
    exact relAt_append0 rfl L ilink zlink 2 Tryz.underlying24 hilink hzlink hszlink hbylink hzclink (by decide) u14 rfl hF.1 L _ _ _ (flatC LinkP.cells (srcM d).links) rfl ((HRa_link.out).below hC) HOa_link.out HLa_link.out
  case' nq17 =>
    go_simp
    refine hK _ ?_
    clear hK K
  apply relWalkT_ex rfl rfl ?oq18 (fun K hK => ?nq18)
  case oq18 =>
    intro W hC hF
    have sa0 := HA1.out W hC
    have sb0 := HB1.out W hC
    obtain ⟨a0, a1, a2, a3⟩ := sa0
    obtain ⟨b0, b1, b2, b3⟩ := sb0
    go_simp
    all_goals first | exact ⟨Below.refl _ _, rfl⟩ | exact Below.refl _ _
  case' nq18 =>
    go_simp
    refine hK _ ?_
    clear hK K
  apply relWalkT_ex rfl rfl ?oq19 (fun K hK => ?nq19)
  case oq19 =>
    intro W hC hF
    have sa0 := HA1.out W hC
    have sb0 := HB1.out W hC
    obtain ⟨a0, a1, a2, a3⟩ := sa0
    obtain ⟨b0, b1, b2, b3⟩ := sb0
    go_simp
    all_goals first | exact ⟨Below.refl _ _, rfl⟩ | exact Below.refl _ _
  case' nq19 =>
    go_simp
    refine hK _ ?_
    clear hK K
  apply relWalkT_wr rfl rfl ?oq20 (fun u20 K hK => ?nq20)
  case oq20 =>
    intro W hC hF
    have hLW := hC.size
    rw [hL] at hLW
    exact relAtR_more rfl L ilink zlink 2 Tryz.underlying24 hilink hzlink hszlink hbylink hzclink (by decide) u17 (srcM d).links.length (flatC LinkP.cells (srcM d).links) rfl hF.1 L _ _ _ (flatC LinkP.cells (srcM f).links) rfl ((HRb_link.out).below hC) HOb_link.out HLa_link.out HLb_link.out hLW
  case' nq20 =>
    go_simp
    refine hK _ ?_
    clear hK K
  apply relWalkT_rel rfl rfl ?oq21 (fun u21 K hK => ?nq21)
  case oq21 =>
    intro W hC hF
    have hLW := hC.size
    rw [hL] at hLW
    go_simp
    refine ⟨(Below.refl _ _).alloc (Nat.le_refl _) _, ?_⟩
    exact Nil0.made W hLW
  case' nq21 =>
    go_simp
    refine hK _ ?_
    clear hK K
  apply relWalkT_ex rfl rfl ?oq22 (fun K hK => ?nq22)
  case oq22 =>
    intro W hC hF
    have sa0 := HA1.out W hC
    have sb0 := HB1.out W hC
    obtain ⟨a0, a1, a2, a3⟩ := sa0
    obtain ⟨b0, b1, b2, b3⟩ := sb0
    go_simp
    all_goals first | exact ⟨Below.refl _ _, rfl⟩ | exact Below.refl _ _
  case' nq22 =>
    go_simp
    refine hK _ ?_
    clear hK K
  apply relWalkT_ex rfl rfl ?oq23 (fun K hK => ?nq23)
  case oq23 =>
    intro W hC hF
    have sa0 := HA1.out W hC
    have sb0 := HB1.out W hC
    obtain ⟨a0, a1, a2, a3⟩ := sa0
    obtain ⟨b0, b1, b2, b3⟩ := sb0
    go_simp
    all_goals first | exact ⟨Below.refl _ _, rfl⟩ | exact Below.refl _ _
  case' nq23 =>
    go_simp
    refine hK _ ?_
    clear hK K
  apply relWalkT_rel rfl rfl ?oq24 (fun u24 K hK => ?nq24)
  case oq24 =>
    intro W hC hF
    exact relAt_append0 rfl L istr zstr 1 Tryz.underlying25 histr hzstr hszstr hbystr hzcstr (by decide) u21 rfl hF.1 L _ _ _ (flatC encS (srcM d).shifts) rfl ((HRa_str.out).below hC) HOa_str.out HLa_str.out
  case' nq24 =>
    go_simp
    refine hK _ ?_
    clear hK K
  apply relWalkT_ex rfl rfl ?oq25 (fun K hK => ?nq25)
  case oq25 =>
    intro W hC hF
    have sa0 := HA1.out W hC
    have sb0 := HB1.out W hC
    obtain ⟨a0, a1, a2, a3⟩ := sa0
    obtain ⟨b0, b1, b2, b3⟩ := sb0
    go_simp
    all_goals first | exact ⟨Below.refl _ _, rfl⟩ | exact Below.refl _ _
  case' nq25 =>
    go_simp
    refine hK _ ?_
    clear hK K
  apply relWalkT_ex rfl rfl ?oq26 (fun K hK => ?nq26)
  case oq26 =>
    intro W hC hF
    have sa0 := HA1.out W hC
    have sb0 := HB1.out W hC
    obtain ⟨a0, a1, a2, a3⟩ := sa0
    obtain ⟨b0, b1, b2, b3⟩ := sb0
    go_simp
    all_goals first | exact ⟨Below.refl _ _, rfl⟩ | exact Below.refl _ _
  case' nq26 =>
    go_simp
    refine hK _ ?_
    clear hK K
  apply relWalkT_wr rfl rfl ?oq27 (fun u27 K hK => ?nq27)
  case oq27 =>
    intro W hC hF
    have hLW := hC.size
    rw [hL] at hLW
    exact relAtR_more rfl L istr zstr 1 Tryz.underlying25 histr hzstr hszstr hbystr hzcstr (by decide) u24 (srcM d).shifts.length (flatC encS (srcM d).shifts) rfl hF.1 L _ _ _ (flatC encS (srcM f).shifts) rfl ((HRb_str.out).below hC) HOb_str.out HLa_str.out HLb_str.out hLW
  case' nq27 =>
    go_simp
    refine hK _ ?_
    clear hK K
  apply relWalkT_rel rfl rfl ?oq28 (fun u28 K hK => ?nq28)
  case oq28 =>
    intro W hC hF
    obtain ⟨h27, h20, h13, h6, -⟩ := hF
    obtain ⟨x6, y6, rfl⟩ := own_form h6
    obtain ⟨x13, y13, rfl⟩ := own_form h13
    obtain ⟨x20, y20, rfl⟩ := own_form h20
    obtain ⟨x27, y27, rfl⟩ := own_form h27
    have HA := Lib.hid (And.intro h6 (And.intro h13 (And.intro h20 h27)))
    clear h6 h13 h20 h27
    go_simp
    exact ⟨Below.refl _ _, _, _, _, _, rfl, HA.out⟩
  case' nq28 =>
    go_simp
    refine hK _ ?_
    clear hK K
  apply relWalkT_new rfl rfl ?oq29 (fun u29 K hK => ?nq29)
  case oq29 =>
    intro W hC hF
    have hLW := hC.size
    rw [hL] at hLW
    go_simp
    exact ⟨(Below.refl _ _).alloc (Nat.le_refl _) _, ⟨_, rfl, Blk.new' _ _ _ rfl, hLW⟩, W.heap.size, rfl, Nat.le_refl _, by simp⟩
  case' nq29 =>
    go_simp
    refine hK _ ?_
    clear hK K
  apply relWalkT_end
  intro W hC hF hU
  obtain ⟨⟨gs, rfl, hgs, hges⟩, ⟨v1, v2, v3, v4, rfl, g1, g2, g3, g4⟩, -⟩ := hF
  obtain ⟨x1, y1, rfl⟩ := own_form g1
  obtain ⟨x2, y2, rfl⟩ := own_form g2
  obtain ⟨x3, y3, rfl⟩ := own_form g3
  obtain ⟨x4, y4, rfl⟩ := own_form g4
  have es : catS (srcM d) (srcM f) = ⟨(srcM d).rules ++ (srcM f).rules, (ca ++ cb).map (fun q => q.1.1), (srcM d).links ++ (srcM f).links, (srcM d).shifts ++ (srcM f).shifts⟩ := by unfold catS; rw [List.map_append, HCA.out, HCB.out]
  have E1 := Lib.hid (show (srcM d).rules.length + (srcM f).rules.length = (catS (srcM d) (srcM f)).rules.length from by simp [catS])
  have E2 := Lib.hid (show ca.length + cb.length = ((ca ++ cb).map (·.1)).length from by simp)
  have E3 := Lib.hid (show (srcM d).links.length + (srcM f).links.length = (catS (srcM d) (srcM f)).links.length from by simp [catS])
  have E4 := Lib.hid (show (srcM d).shifts.length + (srcM f).shifts.length = (catS (srcM d) (srcM f)).shifts.length from by simp [catS])
  have HLS := Lib.hid (show LS w (catS (srcM d) (srcM f)) gs ((ca ++ cb).map (·.1)) #[.slice x1 ((srcM d).rules.length + (srcM f).rules.length) y1, .slice x2 (ca.length + cb.length) y2, .slice x3 ((srcM d).links.length + (srcM f).links.length) y3, .slice x4 ((srcM d).shifts.length + (srcM f).shifts.length) y4] (.slice x1 ((srcM d).rules.length + (srcM f).rules.length) y1) (.slice x2 (ca.length + cb.length) y2) (.slice x3 ((srcM d).links.length + (srcM f).links.length) y3) (.slice x4 ((srcM d).shifts.length + (srcM f).shifts.length) y4) ((((W.setCell ⟨gs, 0, none⟩ (.slice x1 ((srcM d).rules.length + (srcM f).rules.length) y1)).setCell ⟨gs, 1, none⟩ (.slice x2 (ca.length + cb.length) y2)).setCell ⟨gs, 2, none⟩ (.slice x3 ((srcM d).links.length + (srcM f).links.length) y3)).setCell ⟨gs, 3, none⟩ (.slice x4 ((srcM d).shifts.length + (srcM f).shifts.length) y4)) from by
    have hle : w.heap.size ≤ L := by rw [← hL]; exact HW1.out.2.2.2.2.size
    have hg2 : w.heap.size ≤ gs := Nat.le_trans hle hges
    have b1 := hgs.set_ 0 (.slice x1 ((srcM d).rules.length + (srcM f).rules.length) y1)
    have b2 := b1.set_ 1 (.slice x2 (ca.length + cb.length) y2)
    have b3 := b2.set_ 2 (.slice x3 ((srcM d).links.length + (srcM f).links.length) y3)
    have fr : ∀ {T k n : Nat} {v : Value} {xs : List Value}, T ≠ 27 → W.ownsRow w.heap.size T k v n xs → ((((W.setCell ⟨gs, 0, none⟩ (.slice x1 ((srcM d).rules.length + (srcM f).rules.length) y1)).setCell ⟨gs, 1, none⟩ (.slice x2 (ca.length + cb.length) y2)).setCell ⟨gs, 2, none⟩ (.slice x3 ((srcM d).links.length + (srcM f).links.length) y3)).setCell ⟨gs, 3, none⟩ (.slice x4 ((srcM d).shifts.length + (srcM f).shifts.length) y4)).ownsRow w.heap.size T k v n xs := fun hne ho => own_farT (own_farT (own_farT (own_farT ho hgs hne _) b1 hne _) b2 hne _) b3 hne _
    have hC2 : Below w1.heap.size w1 W := by rw [hL]; exact hC
    have hsb : SB w.heap.size gs ((srcM d).rules ++ (srcM f).rules) (ca ++ cb) ((srcM d).links ++ (srcM f).links) ((srcM d).shifts ++ (srcM f).shifts) (.slice x1 ((srcM d).rules.length + (srcM f).rules.length) y1) (.slice x2 (ca.length + cb.length) y2) (.slice x3 ((srcM d).links.length + (srcM f).links.length) y3) (.slice x4 ((srcM d).shifts.length + (srcM f).shifts.length) y4) ((((W.setCell ⟨gs, 0, none⟩ (.slice x1 ((srcM d).rules.length + (srcM f).rules.length) y1)).setCell ⟨gs, 1, none⟩ (.slice x2 (ca.length + cb.length) y2)).setCell ⟨gs, 2, none⟩ (.slice x3 ((srcM d).links.length + (srcM f).links.length) y3)).setCell ⟨gs, 3, none⟩ (.slice x4 ((srcM d).shifts.length + (srcM f).shifts.length) y4)) := ⟨b3.set_ 3 (.slice x4 ((srcM d).shifts.length + (srcM f).shifts.length) y4), by show World.ownsRow _ _ _ _ _ _ _; rw [List.length_append, flatC_append]; exact fr (by decide) (own_mono g1 hle), by show World.ownsRow _ _ _ _ _ _ _; rw [List.length_append, flatC_append]; exact fr (by decide) (own_mono g2 hle), by show World.ownsRow _ _ _ _ _ _ _; rw [List.length_append, flatC_append]; exact fr (by decide) (own_mono g3 hle), by show World.ownsRow _ _ _ _ _ _ _; rw [List.length_append, flatC_append]; exact fr (by decide) (own_mono g4 hle), fun q hq => fr (by decide) ((List.mem_append.1 hq).elim (fun h => OwnR.kept_ (HW1.out.2.2.1.eras q h) hC2) (fun h => OwnR.kept_ (HW1.out.2.2.2.1.eras q h) hC2))⟩
    exact ⟨hsb.out, by rw [es]; exact hsb.src, (((( HW1.out.2.2.2.2.trans (hC.mono hle)).setCell hg2 _).setCell hg2 _).setCell hg2 _).setCell hg2 _⟩)
  have s0 := hgs.cell_ (i := 0) rfl
  have f0 := hgs.frozen 0
  have s1 := hgs.cell_ (i := 1) rfl
  have f1 := hgs.frozen 1
  have s2 := hgs.cell_ (i := 2) rfl
  have f2 := hgs.frozen 2
  have s3 := hgs.cell_ (i := 3) rfl
  have f3 := hgs.frozen 3
  have HRT := Lib.hid (catS_right (srcM_right d) (srcM_right f))
  have HSM := Lib.hid (catS_small d f)
  clear hU hC hgs hges g1 g2 g3 g4 HA1 HB1 hL HW1 HCA HCB es HRa_rule HRb_rule HOa_rule HOb_rule HLa_rule HLb_rule HRa_zone HRb_zone HOa_zone HOb_zone HLa_zone HLb_zone HRa_link HRb_link HOa_link HOb_link HLa_link HLb_link HRa_str HRb_str HOa_str HOb_str HLa_str HLb_str
  go_upto_region 3 with fail
  clear s0 f0 s1 f1 s2 f2 s3 f3
  generalize ((((W.setCell ⟨gs, 0, none⟩ (.slice x1 ((srcM d).rules.length + (srcM f).rules.length) y1)).setCell ⟨gs, 1, none⟩ (.slice x2 (ca.length + cb.length) y2)).setCell ⟨gs, 2, none⟩ (.slice x3 ((srcM d).links.length + (srcM f).links.length) y3)).setCell ⟨gs, 3, none⟩ (.slice x4 ((srcM d).shifts.length + (srcM f).shifts.length) y4)) = w2 at *
  rw [E1.out, E2.out, E3.out, E4.out] at HLS ⊢
  clear E1 E2 E3 E4
  generalize (catS (srcM d) (srcM f)) = s at *
  generalize ((ca ++ cb).map (·.1)) = zs at *
  have HW0 := Lib.hid (show WtIs ⟨#[]⟩ [] from ⟨rfl, fun a h => absurd h List.not_mem_nil, Nat.zero_le _⟩)
  have HP1 := Lib.hid (show ∀ x ∈ s.rules, ∀ W, Below w.heap.size w W → Calls Tryz.prog 17 #[.agg x.cells] W fun e w' => e = .returned (.tuple #[.string ⟨(ruleT x).toArray⟩, .int .i64 0]) ∧ Below W.heap.size W w' from fun x hx W hW => by
    have := rulePrint_any x W (HTT.out W hW).2 (HRT.out.sz.rules x hx).1 (HRT.out.sz.rules x hx).2
    rwa [show rulePrintR x = (ruleT x, 0) from if_pos (HRT.out.rules x hx)] at this)
  have HP2 := Lib.hid (show ∀ z ∈ s.zones, ∀ x ∈ z.eras, ∀ W, Below w.heap.size w W → Calls Tryz.prog 18 #[.agg x.cells] W fun e w' => e = .returned (.tuple #[.string ⟨(eraT x).toArray⟩, .int .i64 0]) ∧ Below W.heap.size W w' from fun z hz x hx W hW => by
    have := eprint_any x W (HTT.out W hW).1 ((HRT.out.sz.zones z hz).2 x hx).1 ((HRT.out.sz.zones z hz).2 x hx).2
    rwa [show eraPrintR x = (eraT x, 0) from if_pos ((zone_parts (HRT.out.zones z hz)).2.2 x hx)] at this)
  have HP3 := Lib.hid (show ∀ x ∈ s.links, ∀ W, Below w.heap.size w W → Calls Tryz.prog 19 #[.agg x.cells] W fun e w' => e = .returned (.tuple #[.string ⟨(linkT x).toArray⟩, .int .i64 0]) ∧ Below W.heap.size W w' from fun x hx W hW => by
    have := linkPrint_any x W (HRT.out.sz.links x hx).1 (HRT.out.sz.links x hx).2
    rwa [show linkPrintR x = (linkT x, 0) from if_pos (HRT.out.links x hx)] at this)
  have HP4 := Lib.hid (show ∀ x ∈ s.shifts, ∀ W, Below w.heap.size w W → Calls Tryz.prog 20 #[.string ⟨x.toArray⟩] W fun e w' => e = .returned (.tuple #[.string ⟨(shiftT x).toArray⟩, .int .i64 0]) ∧ Below W.heap.size W w' from fun x hx W hW => by
    have := shiftPrint_any x W (HRT.out.sz.shifts x hx)
    rwa [show shiftPrintR x = (shiftT x, 0) from if_pos (HRT.out.shifts x hx)] at this)
  go_wp2_with fail
  go_loopw [8, 9, 10, 11] (fun s8 i _ _ wr => ∃ (k : Nat) (Wt : ByteArray), k ≤ s.rules.length ∧ i = .int .i64 (k : Int) ∧ s8 = .string Wt ∧ Hid (WtIs Wt (([] : List (List UInt8)) ++ (s.rules.take k).map ruleT)) ∧ Hid (LS w s gs zs #[.slice x1 s.rules.length y1, .slice x2 zs.length y2, .slice x3 s.links.length y3, .slice x4 s.shifts.length y4] (.slice x1 s.rules.length y1) (.slice x2 zs.length y2) (.slice x3 s.links.length y3) (.slice x4 s.shifts.length y4) wr)) (fun _ i _ _ _ => s.rules.length - (intOf i).toNat)
  case atStart => exact ⟨0, _, Nat.zero_le _, rfl, rfl, Lib.hid (by simpa using HW0.out), HLS⟩
  case round =>
  clear HLS HW0
  obtain ⟨k, Wt, hk, rfl, rfl, HW, HS⟩ := hrel
  have cc := HS.out.blk.cell_ (i := 0) rfl
  by_cases hlt : k < s.rules.length
  · obtain ⟨x, hx⟩ : ∃ x, s.rules[k]? = some x := ⟨_, List.getElem?_eq_getElem hlt⟩
    obtain ⟨p9, c9, he9, hr9⟩ := HS.out.src.1
    injection he9 with he9 _ he8
    subst he9 he8
    obtain ⟨b, o, rfl, hbn, hrow⟩ := hr9 (by intro h; rw [h] at hlt; simp at hlt)
    have hd : decide ((k : Int) < (s.rules.length : Int)) = true := by simp; omega
    have k0 : (0 : Int) ≤ (k : Int) := by omega
    have kl : (k : Int) < (s.rules.length : Int) := by omega
    have HN := Lib.hid (HP1.out x (List.mem_of_getElem? hx) wr HS.out.bel)
    obtain ⟨q, hq⟩ : ∃ q : ByteArray, (⟨(ruleT x).toArray⟩ : ByteArray) = q := ⟨_, rfl⟩
    rw [hq] at HN
    have hqd : q.data.toList = ruleT x := by rw [← hq]
    have hqs : q.size ≤ 20000 := by have := rule_len (HRT.out.rules x (List.mem_of_getElem? hx)); rw [← hqd] at this; simpa using this
    have hws := HW.out.size
    have hsm := HSM.out
    have HW9 := Lib.hid (show WtIs (Wt ++ q ++ ⟨#[10]⟩) (([] : List (List UInt8)) ++ (s.rules.take (k + 1)).map ruleT) from by
      have h := HW.out.snoc hqs (by simp only [List.length_append, List.length_map, List.length_take]; simp; omega)
      rw [hqd] at h
      rw [List.take_add_one, hx]
      simpa using h)
    have hlb := hsm.1
    clear hsm
    have HC := Lib.hid (show wr.rangeAt b (o + k * 11) (RuleP.cells x).toList from hrow k x hx)
    have hTi : (Tryz.prog.info? 47).map (·.size) = some (RuleP.cells x).size := by kernel_rfl
    generalize RuleP.cells x = C at *
    clear hrow hx hq hqd hbn
    go_wp2_with (first | (refine wpList_load_arr rfl 47 (.tmp 69) rfl b (o + k * 11) rfl C _ HC.out Tryz.underlying47 rfl hTi ?_) | fail)
    refine HN.out.mono ?_
    rintro e w5 ⟨rfl, hb5⟩
    have HS9 := Lib.hid (HS.out.below hb5)
    clear hb5 HN HS HW cc
    go_wp2_with fail
    go_roundw
    case rel => exact ⟨k + 1, _, by omega, by go_num, rfl, HW9, HS9⟩
    case measure => simp [intOf]; omega
  · obtain rfl : k = s.rules.length := by omega
    have hd : decide ((s.rules.length : Int) < (s.rules.length : Int)) = false := by simp
    have HW0 := Lib.hid (show WtIs Wt (([] : List (List UInt8)) ++ s.rules.map ruleT) from by have := HW.out; rwa [List.take_length] at this)
    have HLS := HS
    clear HW HS hlt hk
    go_wp2_with fail
    clear cc
    generalize wr = w8 at *
    go_loopw [8, 12, 13, 14, 15, 16] (fun s8 i _ _ _ _ wr => ∃ (k : Nat) (Wt : ByteArray), k ≤ zs.length ∧ i = .int .i64 (k : Int) ∧ s8 = .string Wt ∧ Hid (WtIs Wt ((([] : List (List UInt8)) ++ s.rules.map ruleT) ++ ((s.zones.take k).map zoneL).flatten)) ∧ Hid (LS w s gs zs #[.slice x1 s.rules.length y1, .slice x2 zs.length y2, .slice x3 s.links.length y3, .slice x4 s.shifts.length y4] (.slice x1 s.rules.length y1) (.slice x2 zs.length y2) (.slice x3 s.links.length y3) (.slice x4 s.shifts.length y4) wr)) (fun _ i _ _ _ _ _ => zs.length - (intOf i).toNat)
    case atStart => exact ⟨0, _, Nat.zero_le _, rfl, rfl, Lib.hid (by simpa using HW0.out), HLS⟩
    case round =>
    clear HLS HW0
    obtain ⟨k, Wt, hk, rfl, rfl, HW, HS⟩ := hrel
    have cc := HS.out.blk.cell_ (i := 1) rfl
    have hzm := HS.out.src.2.2.1
    have HZL := Lib.hid (show zs.length = s.zones.length from by rw [← hzm]; simp)
    have hsm := HSM.out
    have hzs : zs.length ≤ 12 := by rw [HZL.out]; exact hsm.2.1
    by_cases hlt : k < zs.length
    · obtain ⟨x, hx⟩ : ∃ x, zs[k]? = some x := ⟨_, List.getElem?_eq_getElem hlt⟩
      have hxz : s.zones[k]? = some x.1 := by rw [← hzm, List.getElem?_map, hx]; rfl
      have hxm := List.mem_of_getElem? hxz
      obtain ⟨p9, c9, he9, hr9⟩ := HS.out.src.2.1
      injection he9 with he9 _ he8
      subst he9 he8
      obtain ⟨b, o, rfl, hbn, hrow⟩ := hr9 (by intro h; rw [h] at hlt; simp at hlt)
      obtain ⟨pe, ce, hpe, hre⟩ := HS.out.src.2.2.2.1 x (List.mem_of_getElem? hx)
      have hd : decide ((k : Int) < (zs.length : Int)) = true := by simp; omega
      have k0 : (0 : Int) ≤ (k : Int) := by omega
      have kl : (k : Int) < (zs.length : Int) := by omega
      obtain ⟨nb, hnb⟩ : ∃ nb : ByteArray, (⟨x.1.name.toArray⟩ : ByteArray) = nb := ⟨_, rfl⟩
      have HC := Lib.hid (show wr.rangeAt b (o + k * 2) (#[.string nb, .slice pe x.1.eras.length ce] : Array Value).toList from by have h := hrow k x hx; unfold encZ at h; rw [hnb, hpe] at h; exact h)
      have hnd : nb.data.toList = x.1.name := by rw [← hnb]
      have hns : nb.size ≤ 60 := by have := zoneB_len (zone_parts (HRT.out.zones _ hxm)).1; rw [← hnd] at this; simpa using this
      have hes : x.1.eras.length ≤ 4 := hsm.2.2.2.2 _ hxm
      have HFL := Lib.hid (show ((([] : List (List UInt8)) ++ s.rules.map ruleT) ++ ((s.zones.take k).map zoneL).flatten).length ≤ 100 from by
        have h1 := flat_len (s.zones.take k) fun z hz => hsm.2.2.2.2 z (List.mem_of_mem_take hz)
        have h2 := hsm.1
        rw [List.length_take] at h1
        simp only [List.length_append, List.length_map, List.length_nil]
        omega)
      have HNX := Lib.hid (show ((([] : List (List UInt8)) ++ s.rules.map ruleT) ++ ((s.zones.take k).map zoneL).flatten) ++ zoneL x.1 = ((([] : List (List UInt8)) ++ s.rules.map ruleT) ++ ((s.zones.take (k + 1)).map zoneL).flatten) from by rw [List.take_add_one, hxz]; simp)
      have HXM := Lib.hid hxm
      have HXX := Lib.hid (List.mem_of_getElem? hx)
      have HPE := Lib.hid hpe
      skip
      have HND := Lib.hid hnd
      obtain ⟨Ok, hOk⟩ : ∃ Ok, ((([] : List (List UInt8)) ++ s.rules.map ruleT) ++ ((s.zones.take k).map zoneL).flatten) = Ok := ⟨_, rfl⟩
      rw [hOk] at HFL HNX HW
      have hTz : (Tryz.prog.info? 50).map (·.size) = some (#[.string nb, .slice pe x.1.eras.length ce] : Array Value).size := by kernel_rfl
      clear hx hxz hrow hbn hzm hsm hre hpe hnb hOk hxm hnd
      go_wp2_with (first | (refine wpList_load_arr rfl 50 (.tmp 90) rfl b (o + k * 2) rfl #[.string nb, .slice pe x.1.eras.length ce] _ HC.out Tryz.underlying50 rfl hTz ?_) | fail)
      have HS3 := Lib.hid (show LS w s gs zs #[.slice x1 s.rules.length y1, .slice (some ⟨b, o, none⟩) zs.length y2, .slice x3 s.links.length y3, .slice x4 s.shifts.length y4] (.slice x1 s.rules.length y1) (.slice (some ⟨b, o, none⟩) zs.length y2) (.slice x3 s.links.length y3) (.slice x4 s.shifts.length y4) (wr.alloc (.cells #[.string nb, .slice pe x.1.eras.length ce] 50)) ∧ Blk (wr.alloc (.cells #[.string nb, .slice pe x.1.eras.length ce] 50)) wr.heap.size 50 #[.string nb, .slice pe x.1.eras.length ce] from ⟨HS.out.below ((Below.refl _ _).alloc (Nat.le_refl _) _), Blk.new' _ _ _ rfl⟩)
      generalize wr.alloc (.cells #[.string nb, .slice pe x.1.eras.length ce] 50) = w7 at *
      clear HS HC cc hTz
      generalize wr.heap.size = gz at *
      go_loopw [8, 14, 15, 16] (fun s8 i _ _ wr => ∃ (t : Nat) (Wt : ByteArray), t ≤ x.1.eras.length ∧ i = .int .i64 (t : Int) ∧ s8 = .string Wt ∧ Hid (WtIs Wt (Ok ++ (x.1.eras.take t).mapIdx (eraL x.1.name))) ∧ Hid (LS w s gs zs #[.slice x1 s.rules.length y1, .slice (some ⟨b, o, none⟩) zs.length y2, .slice x3 s.links.length y3, .slice x4 s.shifts.length y4] (.slice x1 s.rules.length y1) (.slice (some ⟨b, o, none⟩) zs.length y2) (.slice x3 s.links.length y3) (.slice x4 s.shifts.length y4) wr ∧ Blk wr gz 50 #[.string nb, .slice pe x.1.eras.length ce])) (fun _ i _ _ _ => x.1.eras.length - (intOf i).toNat)
      case atStart => exact ⟨0, _, Nat.zero_le _, rfl, rfl, Lib.hid (by simpa using HW.out), HS3⟩
      case round =>
      clear HS3 HW
      obtain ⟨t, Wt, ht, rfl, rfl, HW, HS⟩ := hrel
      have z0 := HS.out.2.cell_ (i := 0) rfl
      have z1 := HS.out.2.cell_ (i := 1) rfl
      by_cases hlt2 : t < x.1.eras.length
      · obtain ⟨e, he⟩ : ∃ e, x.1.eras[t]? = some e := ⟨_, List.getElem?_eq_getElem hlt2⟩
        obtain ⟨p8, c8, hp8, hr8⟩ := HS.out.1.src.2.2.2.1 x HXX.out
        have hp7 := HPE.out
        rw [hp8] at hp7
        injection hp7 with hp7 _ hp6
        subst hp7 hp6
        obtain ⟨b3, o3, rfl, hbn3, hrow3⟩ := hr8 (by intro h; rw [h] at hlt2; simp at hlt2)
        have hd2 : decide ((t : Int) < (x.1.eras.length : Int)) = true := by simp; omega
        have t0 : (0 : Int) ≤ (t : Int) := by omega
        have tl : (t : Int) < (x.1.eras.length : Int) := by omega
        have HN := Lib.hid (HP2.out x.1 HXM.out e (List.mem_of_getElem? he) wr HS.out.1.bel)
        obtain ⟨q, hq⟩ : ∃ q : ByteArray, (⟨(eraT e).toArray⟩ : ByteArray) = q := ⟨_, rfl⟩
        rw [hq] at HN
        have hqd : q.data.toList = eraT e := by rw [← hq]
        have hqs : q.size ≤ 217 := by have := eraT_len ((eraOk_iff e).1 ((zone_parts (HRT.out.zones _ HXM.out)).2.2 e (List.mem_of_getElem? he))); rw [← hqd] at this; simpa using this
        have hws := HW.out.size
        have HSN := Lib.hid (show (x.1.eras.take (t + 1)).mapIdx (eraL x.1.name) = (x.1.eras.take t).mapIdx (eraL x.1.name) ++ [eraL x.1.name t e] from by
          rw [List.take_add_one, he, Option.toList_some, List.mapIdx_append]
          simp [List.length_take, Nat.min_eq_left (Nat.le_of_lt hlt2)])
        have HFT := Lib.hid (show (Ok ++ (x.1.eras.take t).mapIdx (eraL x.1.name)).length < 2000 from by
          have := HFL.out
          simp only [List.length_append, List.length_mapIdx, List.length_take]
          omega)
        have HQD := Lib.hid hqd
        have HC := Lib.hid (show wr.rangeAt b3 (o3 + t * 13) e.cells.toList from hrow3 t e he)
        have hTi : (Tryz.prog.info? 55).map (·.size) = some e.cells.size := by kernel_rfl
        generalize e.cells = C at *
        clear hrow3 he hq hqd hbn3 hp8
        by_cases h0 : t = 0
        · have hn0 : ((t : Int) == 0) = true := beq_iff_eq.2 (by omega)
          have HH0 := Lib.hid h0
          clear h0
          have HW9 := Lib.hid (show WtIs (Wt ++ (⟨#[90, 111, 110, 101, 32]⟩ ++ nb ++ ⟨#[32]⟩ ++ q) ++ ⟨#[10]⟩) (Ok ++ (x.1.eras.take (t + 1)).mapIdx (eraL x.1.name)) from by
            have h := HW.out.snoc (q := (⟨#[90, 111, 110, 101, 32]⟩ ++ nb ++ ⟨#[32]⟩ ++ q)) (by have e1 : (⟨#[90, 111, 110, 101, 32]⟩ : ByteArray).size = 5 := rfl; have e2 : (⟨#[32]⟩ : ByteArray).size = 1 := rfl; have e3 : (⟨#[9]⟩ : ByteArray).size = 1 := rfl; simp only [ByteArray.size_append, e1, e2, e3]; omega) HFT.out
            rw [show ((⟨#[90, 111, 110, 101, 32]⟩ ++ nb ++ ⟨#[32]⟩ ++ q) : ByteArray).data.toList = eraL x.1.name t e from by unfold eraL; rw [if_pos HH0.out]; simp [ByteArray.data_append, HQD.out, HND.out]] at h
            rw [HSN.out, ← List.append_assoc]
            exact h)
          go_wp2_with (first | (refine wpList_load_arr rfl 55 (.tmp 103) rfl b3 (o3 + t * 13) rfl C _ HC.out Tryz.underlying55 rfl hTi ?_) | fail)
          refine HN.out.mono ?_
          rintro e9 w5 ⟨rfl, hb5⟩
          have HS9 := Lib.hid (And.intro (HS.out.1.below hb5) (HS.out.2.below hb5 HS.out.2.lt))
          have z0 := HS9.out.2.cell_ (i := 0) rfl
          have z1 := HS9.out.2.cell_ (i := 1) rfl
          clear hb5 HN HS HW
          go_wp2_with fail
          go_roundw
          case rel => exact ⟨t + 1, _, by omega, by go_num, rfl, HW9, HS9⟩
          case measure => simp [intOf]; omega
        · have hn0 : ((t : Int) == 0) = false := beq_eq_false_iff_ne.2 (by omega)
          have hn1 : ¬ (t : Int) = 0 := by omega
          have HW9 := Lib.hid (show WtIs (Wt ++ (⟨#[9]⟩ ++ q) ++ ⟨#[10]⟩) (Ok ++ (x.1.eras.take (t + 1)).mapIdx (eraL x.1.name)) from by
            have h := HW.out.snoc (q := (⟨#[9]⟩ ++ q)) (by have e1 : (⟨#[90, 111, 110, 101, 32]⟩ : ByteArray).size = 5 := rfl; have e2 : (⟨#[32]⟩ : ByteArray).size = 1 := rfl; have e3 : (⟨#[9]⟩ : ByteArray).size = 1 := rfl; simp only [ByteArray.size_append, e1, e2, e3]; omega) HFT.out
            rw [show ((⟨#[9]⟩ ++ q) : ByteArray).data.toList = eraL x.1.name t e from by unfold eraL; rw [if_neg h0]; simp [ByteArray.data_append, HQD.out]] at h
            rw [HSN.out, ← List.append_assoc]
            exact h)
          go_wp2_with (first | (refine wpList_load_arr rfl 55 (.tmp 103) rfl b3 (o3 + t * 13) rfl C _ HC.out Tryz.underlying55 rfl hTi ?_) | fail)
          refine HN.out.mono ?_
          rintro e9 w5 ⟨rfl, hb5⟩
          have HS9 := Lib.hid (And.intro (HS.out.1.below hb5) (HS.out.2.below hb5 HS.out.2.lt))
          have z0 := HS9.out.2.cell_ (i := 0) rfl
          have z1 := HS9.out.2.cell_ (i := 1) rfl
          clear hb5 HN HS HW
          go_wp2_with fail
          go_roundw
          case rel => exact ⟨t + 1, _, by omega, by go_num, rfl, HW9, HS9⟩
          case measure => simp [intOf]; omega
      · obtain rfl : t = x.1.eras.length := by omega
        have hd2 : decide ((x.1.eras.length : Int) < (x.1.eras.length : Int)) = false := by simp
        have HW9 := Lib.hid (show WtIs Wt ((([] : List (List UInt8)) ++ s.rules.map ruleT) ++ ((s.zones.take (k + 1)).map zoneL).flatten) from by have := HW.out; rw [List.take_length] at this; rw [← HNX.out]; exact this)
        have HS9 := Lib.hid HS.out.1
        clear HW HS hlt2 ht HNX HFL
        go_wp2_with fail
        go_roundw
        case rel => exact ⟨k + 1, _, by omega, by go_num, rfl, HW9, HS9⟩
        case measure => simp [intOf]; omega
    · obtain rfl : k = zs.length := by omega
      have hd : decide ((zs.length : Int) < (zs.length : Int)) = false := by simp
      have HW0 := Lib.hid (show WtIs Wt ((([] : List (List UInt8)) ++ s.rules.map ruleT) ++ (s.zones.map zoneL).flatten) from by have := HW.out; rw [HZL.out, List.take_length] at this; exact this)
      have HLS := HS
      clear HW HS hlt hk hzm HZL hzs hsm
      go_wp2_with fail
      clear cc
      generalize wr = w8 at *
      go_loopw [8, 17, 18, 19] (fun s8 i _ _ wr => ∃ (k : Nat) (Wt : ByteArray), k ≤ s.links.length ∧ i = .int .i64 (k : Int) ∧ s8 = .string Wt ∧ Hid (WtIs Wt (((([] : List (List UInt8)) ++ s.rules.map ruleT) ++ (s.zones.map zoneL).flatten) ++ (s.links.take k).map linkT)) ∧ Hid (LS w s gs zs #[.slice x1 s.rules.length y1, .slice x2 zs.length y2, .slice x3 s.links.length y3, .slice x4 s.shifts.length y4] (.slice x1 s.rules.length y1) (.slice x2 zs.length y2) (.slice x3 s.links.length y3) (.slice x4 s.shifts.length y4) wr)) (fun _ i _ _ _ => s.links.length - (intOf i).toNat)
      case atStart => exact ⟨0, _, Nat.zero_le _, rfl, rfl, Lib.hid (by simpa using HW0.out), HLS⟩
      case round =>
      clear HLS HW0
      obtain ⟨k, Wt, hk, rfl, rfl, HW, HS⟩ := hrel
      have cc := HS.out.blk.cell_ (i := 2) rfl
      by_cases hlt : k < s.links.length
      · obtain ⟨x, hx⟩ : ∃ x, s.links[k]? = some x := ⟨_, List.getElem?_eq_getElem hlt⟩
        obtain ⟨p9, c9, he9, hr9⟩ := HS.out.src.2.2.2.2.1
        injection he9 with he9 _ he8
        subst he9 he8
        obtain ⟨b, o, rfl, hbn, hrow⟩ := hr9 (by intro h; rw [h] at hlt; simp at hlt)
        have hd : decide ((k : Int) < (s.links.length : Int)) = true := by simp; omega
        have k0 : (0 : Int) ≤ (k : Int) := by omega
        have kl : (k : Int) < (s.links.length : Int) := by omega
        have HN := Lib.hid (HP3.out x (List.mem_of_getElem? hx) wr HS.out.bel)
        obtain ⟨q, hq⟩ : ∃ q : ByteArray, (⟨(linkT x).toArray⟩ : ByteArray) = q := ⟨_, rfl⟩
        rw [hq] at HN
        have hqd : q.data.toList = linkT x := by rw [← hq]
        have hqs : q.size ≤ 20000 := by have := link_len (HRT.out.links x (List.mem_of_getElem? hx)); rw [← hqd] at this; simpa using this
        have hws := HW.out.size
        have hsm := HSM.out
        have HW9 := Lib.hid (show WtIs (Wt ++ q ++ ⟨#[10]⟩) (((([] : List (List UInt8)) ++ s.rules.map ruleT) ++ (s.zones.map zoneL).flatten) ++ (s.links.take (k + 1)).map linkT) from by
          have h := HW.out.snoc hqs (by have h9 := flat_len s.zones hsm.2.2.2.2; have h8 := hsm.1; have h7 := hsm.2.1; have h6 := hsm.2.2.1; have h5 := hsm.2.2.2.1; simp only [List.length_append, List.length_map, List.length_take, List.length_nil]; omega)
          rw [hqd] at h
          rw [List.take_add_one, hx]
          simpa using h)
        have hlb := hsm.2.2.1
        clear hsm
        have HC := Lib.hid (show wr.rangeAt b (o + k * 2) (LinkP.cells x).toList from hrow k x hx)
        have hTi : (Tryz.prog.info? 58).map (·.size) = some (LinkP.cells x).size := by kernel_rfl
        generalize LinkP.cells x = C at *
        clear hrow hx hq hqd hbn
        go_wp2_with (first | (refine wpList_load_arr rfl 58 (.tmp 135) rfl b (o + k * 2) rfl C _ HC.out Tryz.underlying58 rfl hTi ?_) | fail)
        refine HN.out.mono ?_
        rintro e w5 ⟨rfl, hb5⟩
        have HS9 := Lib.hid (HS.out.below hb5)
        clear hb5 HN HS HW cc
        go_wp2_with fail
        go_roundw
        case rel => exact ⟨k + 1, _, by omega, by go_num, rfl, HW9, HS9⟩
        case measure => simp [intOf]; omega
      · obtain rfl : k = s.links.length := by omega
        have hd : decide ((s.links.length : Int) < (s.links.length : Int)) = false := by simp
        have HW0 := Lib.hid (show WtIs Wt (((([] : List (List UInt8)) ++ s.rules.map ruleT) ++ (s.zones.map zoneL).flatten) ++ s.links.map linkT) from by have := HW.out; rwa [List.take_length] at this)
        have HLS := HS
        clear HW HS hlt hk
        go_wp2_with fail
        clear cc
        generalize wr = w8 at *
        go_loopw [8, 20, 21, 22] (fun s8 i _ _ wr => ∃ (k : Nat) (Wt : ByteArray), k ≤ s.shifts.length ∧ i = .int .i64 (k : Int) ∧ s8 = .string Wt ∧ Hid (WtIs Wt ((((([] : List (List UInt8)) ++ s.rules.map ruleT) ++ (s.zones.map zoneL).flatten) ++ s.links.map linkT) ++ (s.shifts.take k).map shiftT)) ∧ Hid (LS w s gs zs #[.slice x1 s.rules.length y1, .slice x2 zs.length y2, .slice x3 s.links.length y3, .slice x4 s.shifts.length y4] (.slice x1 s.rules.length y1) (.slice x2 zs.length y2) (.slice x3 s.links.length y3) (.slice x4 s.shifts.length y4) wr)) (fun _ i _ _ _ => s.shifts.length - (intOf i).toNat)
        case atStart => exact ⟨0, _, Nat.zero_le _, rfl, rfl, Lib.hid (by simpa using HW0.out), HLS⟩
        case round =>
        clear HLS HW0
        obtain ⟨k, Wt, hk, rfl, rfl, HW, HS⟩ := hrel
        have cc := HS.out.blk.cell_ (i := 3) rfl
        by_cases hlt : k < s.shifts.length
        · obtain ⟨x, hx⟩ : ∃ x, s.shifts[k]? = some x := ⟨_, List.getElem?_eq_getElem hlt⟩
          obtain ⟨p9, c9, he9, hr9⟩ := HS.out.src.2.2.2.2.2
          injection he9 with he9 _ he8
          subst he9 he8
          obtain ⟨b, o, rfl, hbn, hrow⟩ := hr9 (by intro h; rw [h] at hlt; simp at hlt)
          have hd : decide ((k : Int) < (s.shifts.length : Int)) = true := by simp; omega
          have k0 : (0 : Int) ≤ (k : Int) := by omega
          have kl : (k : Int) < (s.shifts.length : Int) := by omega
          have HN := Lib.hid (HP4.out x (List.mem_of_getElem? hx) wr HS.out.bel)
          obtain ⟨q, hq⟩ : ∃ q : ByteArray, (⟨(shiftT x).toArray⟩ : ByteArray) = q := ⟨_, rfl⟩
          rw [hq] at HN
          have hqd : q.data.toList = shiftT x := by rw [← hq]
          have hqs : q.size ≤ 20000 := by have := shift_len (HRT.out.shifts x (List.mem_of_getElem? hx)); rw [← hqd] at this; simpa using this
          have hws := HW.out.size
          have hsm := HSM.out
          have HW9 := Lib.hid (show WtIs (Wt ++ q ++ ⟨#[10]⟩) ((((([] : List (List UInt8)) ++ s.rules.map ruleT) ++ (s.zones.map zoneL).flatten) ++ s.links.map linkT) ++ (s.shifts.take (k + 1)).map shiftT) from by
            have h := HW.out.snoc hqs (by have h9 := flat_len s.zones hsm.2.2.2.2; have h8 := hsm.1; have h7 := hsm.2.1; have h6 := hsm.2.2.1; have h5 := hsm.2.2.2.1; simp only [List.length_append, List.length_map, List.length_take, List.length_nil]; omega)
            rw [hqd] at h
            rw [List.take_add_one, hx]
            simpa using h)
          have hlb := hsm.2.2.2.1
          clear hsm
          have c1 : wr.cell? ⟨b, o + k, none⟩ = some (.string ⟨x.toArray⟩) := by have := hrow k x hx 0 _ rfl; simpa using this
          generalize (⟨x.toArray⟩ : ByteArray) = C at *
          clear hrow hx hq hqd hbn
          go_wp2_with fail
          refine HN.out.mono ?_
          rintro e w5 ⟨rfl, hb5⟩
          have HS9 := Lib.hid (HS.out.below hb5)
          clear hb5 HN HS HW cc
          go_wp2_with fail
          go_roundw
          case rel => exact ⟨k + 1, _, by omega, by go_num, rfl, HW9, HS9⟩
          case measure => simp [intOf]; omega
        · obtain rfl : k = s.shifts.length := by omega
          have hd : decide ((s.shifts.length : Int) < (s.shifts.length : Int)) = false := by simp
          have HW0 := Lib.hid (show WtIs Wt ((((([] : List (List UInt8)) ++ s.rules.map ruleT) ++ (s.zones.map zoneL).flatten) ++ s.links.map linkT) ++ s.shifts.map shiftT) from by have := HW.out; rwa [List.take_length] at this)
          have HLS := HS
          clear HW HS hlt hk
          go_upto_region 39 with fail
          clear cc
          generalize wr = w8 at *
          have HWT := Lib.hid (show (⟨(srcT s).toArray⟩ : ByteArray) = Wt from by
            have h1 := HW0.out.eq
            have h2 : linesT ((((([] : List (List UInt8)) ++ s.rules.map ruleT) ++ (s.zones.map zoneL).flatten) ++ s.links.map linkT) ++ s.shifts.map shiftT) = srcT s := by
              unfold srcT srcLs
              simp only [linesT_append, List.nil_append]
              rw [linesT_flat s.zones fun z hz => (zone_parts (HRT.out.zones z hz)).2.1]
            rw [← h2, ← h1])
          have HPF := Lib.hid (show Calls Tryz.prog 11 #[.agg #[.slice x1 s.rules.length y1, .slice x2 zs.length y2, .slice x3 s.links.length y3, .slice x4 s.shifts.length y4]] w8 fun e w' => e = .returned (.tuple #[.string Wt, .int .i64 0]) ∧ Below w8.heap.size w8 w' from by
            have h := print_src (s := s) (v := .agg #[.slice x1 s.rules.length y1, .slice x2 zs.length y2, .slice x3 s.links.length y3, .slice x4 s.shifts.length y4]) (W := w8) ⟨_, _, _, _, _, rfl, HLS.out.src⟩ (HTT.out w8 HLS.out.bel).1 (HTT.out w8 HLS.out.bel).2 HRT.out.sz
            rw [print_right HRT.out ⟨Nat.le_trans HSM.out.1 (by decide), Nat.le_trans HSM.out.2.1 (by decide), Nat.le_trans HSM.out.2.2.1 (by decide), Nat.le_trans HSM.out.2.2.2.1 (by decide), fun z hz => Nat.le_trans (HSM.out.2.2.2.2 z hz) (by decide)⟩] at h
            simp only [HWT.out] at h
            exact h)
          have d0 := HLS.out.blk.cell_ (i := 0) rfl
          have d1 := HLS.out.blk.cell_ (i := 1) rfl
          have d2 := HLS.out.blk.cell_ (i := 2) rfl
          have d3 := HLS.out.blk.cell_ (i := 3) rfl
          go_wp2_with fail
          refine HPF.out.mono ?_
          rintro e w9 ⟨rfl, hb9⟩
          have HB9 := Lib.hid (HLS.out.bel.trans (hb9.mono HLS.out.bel.size))
          clear hb9 HPF d0 d1 d2 d3
          go_wp2_with fail
          refine (pworks_any _ (HTT.out _ HB9.out).1 (HTT.out _ HB9.out).2).mono ?_
          rintro e w10 ⟨rfl, hb10⟩
          have HBA := Lib.hid (HB9.out.trans (hb10.mono HB9.out.size))
          clear hb10
          go_wp2_with fail
          go_ret
          exact ⟨rfl, HBA.out⟩
end Go.Proofs.YtmcgbjjcpcgcfaaGreatDoor
