/-
  The sources of the drafts of layer 14: what Made returns.
-/
import Derived.Test.YtmcgbjjcpcgcfaaGreatDoorMade14
import Derived.Deep.CutRange
set_option linter.unusedVariables false
set_option linter.unusedSimpArgs false
namespace Go.Proofs.YtmcgbjjcpcgcfaaGreatDoor
open Go.RowKit Go.Shelf

structure DraftR where
  nm : Nat
  lt : Nat
  fr : Nat
  tt : Nat
  mo : Nat
  dk : Nat
  dw : Nat
  dd : Nat
  at_ : Int
  sv : Int
  bs : Nat
def DraftR.cells (d : DraftR) : Array Value := #[.int .u8 (d.nm : Int), .int .u8 (d.lt : Int), .int .u16 (d.fr : Int), .int .u16 (d.tt : Int), .int .u8 (d.mo : Int), .int .u8 (d.dk : Int), .int .u8 (d.dw : Int), .int .u8 (d.dd : Int), .int .i32 d.at_, .int .i32 d.sv, .int .u8 (d.bs : Int)]
structure DraftR.Ok (d : DraftR) : Prop where
  nm : d.nm < 256
  lt : d.lt < 256
  fr : d.fr < 65536
  tt : d.tt < 65536
  mo : d.mo < 256
  dk : d.dk < 256
  dw : d.dw < 256
  dd : d.dd < 256
  at_ : -2147483648 ≤ d.at_ ∧ d.at_ ≤ 2147483647
  sv : -2147483648 ≤ d.sv ∧ d.sv ≤ 2147483647
  bs : d.bs < 256
def DraftR.rule (d : DraftR) : RuleP := draftM d.nm d.lt d.fr d.tt d.mo d.dk d.dw d.dd d.at_ d.sv d.bs
theorem DraftR.right (d : DraftR) : RuleRight d.rule := draft_right _ _ _ _ _ _ _ _ _ _ _
def encU (n : Nat) : Array Value := #[.int .u8 (n : Int)]
structure DraftP where
  rules : List DraftR
  zones : List Nat
  eras : List DraftE
  links : List Nat
  shifts : List Nat
structure DraftIs (w : World) (n₀ : Nat) (r z e l h : Value) (d : DraftP) : Prop where
  rules : RowsAt w n₀ 11 DraftR.cells r d.rules
  zones : RowsAt w n₀ 1 encU z d.zones
  eras : RowsAt w n₀ 12 DraftE.cells e d.eras
  links : RowsAt w n₀ 1 encU l d.links
  shifts : RowsAt w n₀ 1 encU h d.shifts
theorem DraftIs.below {w W : World} {n₀ : Nat} {r z e l h : Value} {d : DraftP} (k : DraftIs w n₀ r z e l h d) (hb : Below n₀ w W) : DraftIs W n₀ r z e l h d := ⟨k.rules.below hb, k.zones.below hb, k.eras.below hb, k.links.below hb, k.shifts.below hb⟩
theorem DraftIs.mono {w : World} {n₀ n₁ : Nat} {r z e l h : Value} {d : DraftP} (k : DraftIs w n₀ r z e l h d) (hn : n₀ ≤ n₁) : DraftIs w n₁ r z e l h d := ⟨k.rules.mono hn, k.zones.mono hn, k.eras.mono hn, k.links.mono hn, k.shifts.mono hn⟩
structure DraftOk (d : DraftP) : Prop where
  rules : ∀ x ∈ d.rules, x.Ok
  zones : ∀ x ∈ d.zones, x < 256
  eras : ∀ x ∈ d.eras, x.Ok
  links : ∀ x ∈ d.links, x < 256
  shifts : ∀ x ∈ d.shifts, x < 256
def DraftE.zero : DraftE := ⟨0, 0, 0, 0, 0, 0, 0, 0, 0, 0, 0, 0⟩
def eraAt (es : List DraftE) (k : Nat) : DraftE := es.getD (k % es.length) DraftE.zero
def erasM (es : List DraftE) (k n j : Nat) : List EraP := (List.range j).map fun t => (eraAt es (k + t)).era (decide (t + 1 < n))
def zoneM (es : List DraftE) (k z : Nat) : ZoneP := ⟨znameM (z / 4), erasM es k (1 + z % 4) (1 + z % 4)⟩
def zonesM (es : List DraftE) : Nat → List Nat → List ZoneP
  | _, [] => []
  | k, z :: l => zoneM es k z :: zonesM es (k + (1 + z % 4)) l
def sumM (l : List Nat) : Nat := (l.map fun z => 1 + z % 4).sum
theorem zonesM_snoc (es : List DraftE) (z : Nat) : ∀ (l : List Nat) (k : Nat), zonesM es k (l ++ [z]) = zonesM es k l ++ [zoneM es (k + sumM l) z]
  | [], k => by simp [zonesM, sumM]
  | y :: l, k => by
    have ih := zonesM_snoc es z l (k + (1 + y % 4))
    simp only [List.cons_append, zonesM, ih]
    rw [show k + (1 + y % 4) + sumM l = k + sumM (y :: l) by simp [sumM]; omega]
theorem sumM_snoc (l : List Nat) (z : Nat) : sumM (l ++ [z]) = sumM l + (1 + z % 4) := by simp [sumM]
theorem sumM_le (l : List Nat) : sumM l ≤ 4 * l.length := by
  induction l with
  | nil => simp [sumM]
  | cons z l ih => simp only [sumM, List.map_cons, List.sum_cons, List.length_cons] at ih ⊢; omega
theorem zonesM_len (es : List DraftE) : ∀ (l : List Nat) (k : Nat), (zonesM es k l).length = l.length
  | [], _ => rfl
  | _ :: l, k => by simp only [zonesM, List.length_cons, zonesM_len es l]
theorem erasM_snoc (es : List DraftE) (k n j : Nat) : erasM es k n (j + 1) = erasM es k n j ++ [(eraAt es (k + j)).era (decide (j + 1 < n))] := by simp [erasM, List.range_succ]
def linkM (n : Nat) : LinkP := ⟨znameM n, znameM (n / 6)⟩
def srcM (d : DraftP) : SourceP := ⟨(d.rules.take 12).map DraftR.rule, zonesM d.eras 0 (d.zones.take 6), (d.links.take 6).map linkM, (d.shifts.take 6).map nameM⟩
theorem made10_row (d : DraftR) (h : d.Ok) (W : World) : Calls Tryz.prog 50 #[.agg d.cells] W fun e w' => e = .returned (.agg d.rule.cells) ∧ Below W.heap.size W w' := made10_any _ _ _ _ _ _ _ _ _ _ _ W h.nm h.lt h.fr h.tt h.mo h.dk h.dw h.dd h.at_ h.sv h.bs
theorem eraAt_ok {es : List DraftE} (h : ∀ x ∈ es, x.Ok) (k : Nat) : (eraAt es k).Ok := by
  unfold eraAt
  rw [List.getD_eq_getElem?_getD]
  cases hx : es[k % es.length]? with
  | none => exact ⟨by decide, by decide, by decide, by decide, by decide, by decide, by decide, by decide, by decide, by decide, by decide, by decide⟩
  | some x => exact h x (List.mem_of_getElem? hx)

/-- the rows of a source, the call's own -/
structure SO (B : Nat) (rs : List RuleP) (cur : List ZV) (ls : List LinkP) (ss : List (List UInt8)) (v1 zv v3 v4 : Value) (W : World) : Prop where
  rule : RuleO B rs v1 W
  zone : ZoneO B cur zv W
  link : LinkO B ls v3 W
  str : StrO B ss v4 W
  eras : ∀ q ∈ cur, EraO B q.1.1.eras q.1.2 W
theorem SB.so {B g : Nat} {rs : List RuleP} {cur : List ZV} {ls : List LinkP} {ss : List (List UInt8)} {v1 zv v3 v4 : Value} {W : World} (h : SB B g rs cur ls ss v1 zv v3 v4 W) : SO B rs cur ls ss v1 zv v3 v4 W := ⟨h.rule, h.zone, h.link, h.str, h.eras⟩
/-- an append of a zone -/
theorem SB.pzone {B g : Nat} {rs : List RuleP} {cur : List ZV} {ls : List LinkP} {ss : List (List UInt8)} {v1 zv v3 v4 : Value} {W W' : World} (h : SB B g rs cur ls ss v1 zv v3 v4 W) (hg : W.grownBy W' zv.ownBlock) {x : ZV} {u : Value} (hu : ZoneO B (cur ++ [x]) u W') (hx : EraO B x.1.1.eras x.1.2 W') : SB B g rs (cur ++ [x]) ls ss v1 u v3 v4 (W'.setCell ⟨g, 1, none⟩ u) := by
  have hout := blk_grown h.out hg h.zone (by decide)
  exact ⟨hout.set_ 1 u, own_farT (h.rule.kept hg (own_apart h.rule h.zone (by decide))) hout (by decide) _, own_farT hu hout (by decide) _, own_farT (h.link.kept hg (own_apart h.link h.zone (by decide))) hout (by decide) _, own_farT (h.str.kept hg (own_apart h.str h.zone (by decide))) hout (by decide) _, fun q hq => by
    rcases List.mem_append.1 hq with hq | hq
    · exact own_farT ((h.eras q hq).kept hg (own_apart (h.eras q hq) h.zone (by decide))) hout (by decide) _
    · rw [List.mem_singleton] at hq
      subst hq
      exact own_farT hx hout (by decide) _⟩
/-- the state of the making: the draft, the result, the parts so far -/
structure MS (w : World) (C : Array Value) (rs : List RuleP) (cur : List ZV) (ls : List LinkP) (ss : List (List UInt8)) (v1 zv v3 v4 : Value) (W : World) : Prop where
  src : Blk W w.heap.size 39 C
  res : Blk W (w.heap.size + 1) 27 #[.slice none 0 0, .slice none 0 0, .slice none 0 0, .slice none 0 0]
  bel : Below w.heap.size w W
  sb : SB w.heap.size (w.heap.size + 1 + 1) rs cur ls ss v1 zv v3 v4 W
section
variable {w W W' : World} {C : Array Value} {rs : List RuleP} {cur : List ZV} {ls : List LinkP} {ss : List (List UInt8)} {v1 zv v3 v4 : Value}
theorem MS.below (h : MS w C rs cur ls ss v1 zv v3 v4 W) (hb : Below W.heap.size W W') : MS w C rs cur ls ss v1 zv v3 v4 W' := ⟨h.src.below hb h.src.lt, h.res.below hb h.res.lt, h.bel.trans (hb.mono h.bel.size), h.sb.below hb⟩
theorem MS.grule (h : MS w C rs cur ls ss v1 zv v3 v4 W) (hg : GRule w.heap.size rs v1 W W') : MS w C rs cur ls ss v1 zv v3 v4 W' := ⟨blk_grown h.src hg.1 h.sb.rule (by decide), blk_grown h.res hg.1 h.sb.rule (by decide), h.bel.grown hg.1 h.bel.size (own_base h.sb.rule), h.sb.grule hg⟩
theorem MS.glink (h : MS w C rs cur ls ss v1 zv v3 v4 W) (hg : GLink w.heap.size ls v3 W W') : MS w C rs cur ls ss v1 zv v3 v4 W' := ⟨blk_grown h.src hg.1 h.sb.link (by decide), blk_grown h.res hg.1 h.sb.link (by decide), h.bel.grown hg.1 h.bel.size (own_base h.sb.link), h.sb.glink hg⟩
theorem MS.gstr (h : MS w C rs cur ls ss v1 zv v3 v4 W) (hg : GStr w.heap.size ss v4 W W') : MS w C rs cur ls ss v1 zv v3 v4 W' := ⟨blk_grown h.src hg.1 h.sb.str (by decide), blk_grown h.res hg.1 h.sb.str (by decide), h.bel.grown hg.1 h.bel.size (own_base h.sb.str), h.sb.gstr hg⟩
theorem MS.srule (h : MS w C rs cur ls ss v1 zv v3 v4 W) {x : RuleP} {u : Value} (hu : RuleO w.heap.size (rs ++ [x]) u W) : MS w C (rs ++ [x]) cur ls ss u zv v3 v4 (W.setCell ⟨w.heap.size + 1 + 1, 0, none⟩ u) := ⟨h.src.far (by simp <;> omega) _, h.res.far (by simp <;> omega) _, h.bel.setCell (by show w.heap.size ≤ w.heap.size + 1 + 1; omega) _, h.sb.srule hu⟩
theorem MS.slink (h : MS w C rs cur ls ss v1 zv v3 v4 W) {x : LinkP} {u : Value} (hu : LinkO w.heap.size (ls ++ [x]) u W) : MS w C rs cur (ls ++ [x]) ss v1 zv u v4 (W.setCell ⟨w.heap.size + 1 + 1, 2, none⟩ u) := ⟨h.src.far (by simp <;> omega) _, h.res.far (by simp <;> omega) _, h.bel.setCell (by show w.heap.size ≤ w.heap.size + 1 + 1; omega) _, h.sb.slink hu⟩
theorem MS.sstr (h : MS w C rs cur ls ss v1 zv v3 v4 W) {x : List UInt8} {u : Value} (hu : StrO w.heap.size (ss ++ [x]) u W) : MS w C rs cur ls (ss ++ [x]) v1 zv v3 u (W.setCell ⟨w.heap.size + 1 + 1, 3, none⟩ u) := ⟨h.src.far (by simp <;> omega) _, h.res.far (by simp <;> omega) _, h.bel.setCell (by show w.heap.size ≤ w.heap.size + 1 + 1; omega) _, h.sb.sstr hu⟩
theorem MS.pzone (h : MS w C rs cur ls ss v1 zv v3 v4 W) (hg : W.grownBy W' zv.ownBlock) {x : ZV} {u : Value} (hu : ZoneO w.heap.size (cur ++ [x]) u W') (hx : EraO w.heap.size x.1.1.eras x.1.2 W') : MS w C rs (cur ++ [x]) ls ss v1 u v3 v4 (W'.setCell ⟨w.heap.size + 1 + 1, 1, none⟩ u) := ⟨(blk_grown h.src hg h.sb.zone (by decide)).far (by simp <;> omega) _, (blk_grown h.res hg h.sb.zone (by decide)).far (by simp <;> omega) _, (h.bel.grown hg h.bel.size (own_base h.sb.zone)).setCell (by show w.heap.size ≤ w.heap.size + 1 + 1; omega) _, h.sb.pzone hg hu hx⟩
/-- the zone that is being made, in block gz -/
structure IS (w : World) (C : Array Value) (rs : List RuleP) (cur : List ZV) (ls : List LinkP) (ss : List (List UInt8)) (v1 zv v3 v4 : Value) (L gz : Nat) (nm : List UInt8) (es : List EraP) (ev : Value) (W : World) : Prop where
  ms : MS w C rs cur ls ss v1 zv v3 v4 W
  zb : Blk W gz 50 #[.string ⟨nm.toArray⟩, ev]
  zge : L ≤ gz
  era : EraO L es ev W
  lowz : Low L zv
  lowe : ∀ q ∈ cur, Low L q.1.2
  le : w.heap.size + 3 ≤ L
variable {L gz : Nat} {nm : List UInt8} {es : List EraP} {ev : Value}
theorem IS.below (h : IS w C rs cur ls ss v1 zv v3 v4 L gz nm es ev W) (hb : Below W.heap.size W W') : IS w C rs cur ls ss v1 zv v3 v4 L gz nm es ev W' := ⟨h.ms.below hb, h.zb.below hb h.zb.lt, h.zge, h.era.kept_ hb, h.lowz, h.lowe, h.le⟩
theorem IS.gera (h : IS w C rs cur ls ss v1 zv v3 v4 L gz nm es ev W) (hg : GEra L es ev W W') : IS w C rs cur ls ss v1 zv v3 v4 L gz nm es ev W' := by
  have hle := h.le
  have hs := h.ms.sb
  exact ⟨⟨blk_grown h.ms.src hg.1 h.era (by decide), blk_grown h.ms.res hg.1 h.era (by decide), h.ms.bel.grown hg.1 h.ms.bel.size (fun k hk => by have := own_base h.era k hk; omega), blk_grown hs.out hg.1 h.era (by decide), hs.rule.kept hg.1 (own_apart hs.rule h.era (by decide)), hs.zone.kept hg.1 (own_apart hs.zone h.era (by decide)), hs.link.kept hg.1 (own_apart hs.link h.era (by decide)), hs.str.kept hg.1 (own_apart hs.str h.era (by decide)), fun q hq => own_up (hs.eras q hq) (h.lowe q hq) h.era hg.1⟩, blk_grown h.zb hg.1 h.era (by decide), h.zge, hg.2 h.era, h.lowz, h.lowe, h.le⟩
theorem own_farL {B q j k n e L : Nat} {v : Value} {xs : List Value} {W : World} (h : W.ownsRow B e k v n xs) (hl : Low L v) (hq : L ≤ q) (u : Value) : (W.setCell ⟨q, j, none⟩ u).ownsRow B e k v n xs := by
  refine ⟨h.1, ?_⟩
  rcases h.2 with h2 | ⟨g, cap, cur, e1, hg, hh, rest⟩
  · exact .inl h2
  · refine .inr ⟨g, cap, cur, e1, hg, Blk.far (show Blk W g e cur from hh) (fun hx => ?_) u, rest⟩
    have hx : g = q := hx
    have := hl g (by rw [e1]; simp [Value.ownBlock])
    omega
theorem IS.sera (h : IS w C rs cur ls ss v1 zv v3 v4 L gz nm es ev W) {x : EraP} {u : Value} (hu : EraO L (es ++ [x]) u W) : IS w C rs cur ls ss v1 zv v3 v4 L gz nm (es ++ [x]) u (W.setCell ⟨gz, 1, none⟩ u) := by
  have hle := h.le
  have hge := h.zge
  have hs := h.ms.sb
  have hb := h.zb
  exact ⟨⟨h.ms.src.far (by simp; omega) _, h.ms.res.far (by simp; omega) _, h.ms.bel.setCell (by show w.heap.size ≤ gz; omega) _, hs.out.far (by simp; omega) _, own_farT hs.rule hb (by decide) _, own_farL hs.zone h.lowz hge _, own_farT hs.link hb (by decide) _, own_farT hs.str hb (by decide) _, fun q hq => own_farT (hs.eras q hq) hb (by decide) _⟩, hb.set_ 1 u, hge, own_farT hu hb (by decide) _, h.lowz, h.lowe, hle⟩
end
/-- a table of four names, above L -/
def TabL (L : Nat) (cs : Array Value) (u : Value) (W : World) : Prop := ∃ g : Nat, u = .slice (some ⟨g, 0, none⟩) 4 4 ∧ Blk W g 9 cs ∧ L ≤ g
def PtrL (L i : Nat) (cs : Array Value) (u : Value) (W : World) : Prop := ∃ g : Nat, u = .pointer (some ⟨g, i, none⟩) ∧ Blk W g 9 cs ∧ L ≤ g
theorem lastsG_tab {e k B n L : Nat} {xs : List Value} {cs : Array Value} {v : Value} (hL : Low L v) : LastsG (GOwn e k B n xs v) (TabL L cs) := fun u w w' hG ⟨g, h1, h2, h3⟩ => ⟨g, h1, (hG.1.block g h2.lt (fun hh => by have := hL g hh.symm; omega)).trans h2, h3⟩
theorem lastsG_ptr {e k B n L i : Nat} {xs : List Value} {cs : Array Value} {v : Value} (hL : Low L v) : LastsG (GOwn e k B n xs v) (PtrL L i cs) := fun u w w' hG ⟨g, h1, h2, h3⟩ => ⟨g, h1, (hG.1.block g h2.lt (fun hh => by have := hL g hh.symm; omega)).trans h2, h3⟩

theorem take_is {α : Type} {l m : List α} {n : Nat} (h : l.take n = m) : (∀ k, k < m.length ↔ k < l.length ∧ k < n) ∧ m.length ≤ n ∧ ∀ (k : Nat) (x : α), m[k]? = some x → l[k]? = some x := by
  subst h
  refine ⟨fun k => by rw [List.length_take]; omega, by rw [List.length_take]; omega, fun k x hx => ?_⟩
  rw [List.getElem?_take] at hx
  split at hx
  · exact hx
  · cases hx

set_option maxRecDepth 100000 in
set_option maxHeartbeats 4000000 in
theorem made14_any (r z e l h : Value) (d : DraftP) (w : World) (hd : DraftIs w w.heap.size r z e l h d) (ho : DraftOk d) :
    Calls Tryz.prog 16 #[.agg #[r, z, e, l, h]] w fun ex w' => (∃ v1 zv v3 v4 cur, ex = .returned (.agg #[v1, zv, v3, v4]) ∧ cur.map (fun q : ZV => q.1.1) = (srcM d).zones ∧ SO w.heap.size (srcM d).rules cur (srcM d).links (srcM d).shifts v1 zv v3 v4 w') ∧ Below w.heap.size w w' := by
  obtain ⟨irule, zrule, hirule, hzrule, hszrule, hbyrule, hzcrule⟩ := info_st (P := Tryz.prog) (e := 47) (k := 11) (by kernel_rfl)
  obtain ⟨ilink, zlink, hilink, hzlink, hszlink, hbylink, hzclink⟩ := info_st (P := Tryz.prog) (e := 58) (k := 2) (by kernel_rfl)
  obtain ⟨istr, zstr, histr, hzstr, hszstr, hbystr, hzcstr⟩ := info_st (P := Tryz.prog) (e := 9) (k := 1) (by kernel_rfl)
  obtain ⟨iera, zera, hiera, hzera, hszera, hbyera, hzcera⟩ := info_st (P := Tryz.prog) (e := 55) (k := 13) (by kernel_rfl)
  obtain ⟨izone, zzone, hizone, hzzone, hszzone, hbyzone, hzczone⟩ := info_st (P := Tryz.prog) (e := 50) (k := 2) (by kernel_rfl)
  obtain ⟨p1, c1, rfl, hr1⟩ := hd.rules
  obtain ⟨p2, c2, rfl, hr2⟩ := hd.zones
  obtain ⟨p3, c3, rfl, hr3⟩ := hd.eras
  obtain ⟨p4, c4, rfl, hr4⟩ := hd.links
  obtain ⟨p5, c5, rfl, hr5⟩ := hd.shifts
  have HR1 := Lib.hid hr1
  have HR2 := Lib.hid hr2
  have HR3 := Lib.hid hr3
  have HR4 := Lib.hid hr4
  have HR5 := Lib.hid hr5
  have HOK := Lib.hid ho
  obtain ⟨rs, hrs⟩ : ∃ rs, d.rules.take 12 = rs := ⟨_, rfl⟩
  obtain ⟨ns, hns⟩ : ∃ ns, d.zones.take 6 = ns := ⟨_, rfl⟩
  obtain ⟨ls, hls⟩ : ∃ ls, d.links.take 6 = ls := ⟨_, rfl⟩
  obtain ⟨hs, hhs⟩ : ∃ hs, d.shifts.take 6 = hs := ⟨_, rfl⟩
  have HS_r := Lib.hid (take_is hrs)
  have HS_z := Lib.hid (take_is hns)
  have HS_l := Lib.hid (take_is hls)
  have HS_h := Lib.hid (take_is hhs)
  have HSM := Lib.hid (show srcM d = ⟨rs.map DraftR.rule, zonesM d.eras 0 ns, ls.map linkM, hs.map nameM⟩ from by rw [← hrs, ← hns, ← hls, ← hhs]; rfl)
  have hb0 : Below w.heap.size w ((w.alloc (.cells #[.slice p1 d.rules.length c1, .slice p2 d.zones.length c2, .slice p3 d.eras.length c3, .slice p4 d.links.length c4, .slice p5 d.shifts.length c5] 39)).alloc (.cells #[.slice none 0 0, .slice none 0 0, .slice none 0 0, .slice none 0 0] 27)) := ((Below.refl _ _).alloc (Nat.le_refl _) _).alloc (by simp) _
  have HS := Lib.hid (show MS w #[.slice p1 d.rules.length c1, .slice p2 d.zones.length c2, .slice p3 d.eras.length c3, .slice p4 d.links.length c4, .slice p5 d.shifts.length c5] [] [] [] [] (.slice none 0 0) (.slice none 0 0) (.slice none 0 0) (.slice none 0 0) (((w.alloc (.cells #[.slice p1 d.rules.length c1, .slice p2 d.zones.length c2, .slice p3 d.eras.length c3, .slice p4 d.links.length c4, .slice p5 d.shifts.length c5] 39)).alloc (.cells #[.slice none 0 0, .slice none 0 0, .slice none 0 0, .slice none 0 0] 27)).alloc (.cells #[.slice none 0 0, .slice none 0 0, .slice none 0 0, .slice none 0 0] 27)) from ⟨((Blk.new' _ _ _ rfl).alloc _).alloc _, (Blk.new' _ _ _ (by simp)).alloc _, hb0.alloc (by simp; omega) _, SB.none_ (Blk.new' _ _ _ (by simp))⟩)
  clear hd ho hr1 hr2 hr3 hr4 hr5 hb0 hrs hns hls hhs
  go_enter Tryz.func16, Tryz.ntmps16
  go_upto_region 2 with fail
  generalize ((w.alloc (.cells #[.slice p1 d.rules.length c1, .slice p2 d.zones.length c2, .slice p3 d.eras.length c3, .slice p4 d.links.length c4, .slice p5 d.shifts.length c5] 39)).alloc (.cells #[.slice none 0 0, .slice none 0 0, .slice none 0 0, .slice none 0 0] 27)).alloc (.cells #[.slice none 0 0, .slice none 0 0, .slice none 0 0, .slice none 0 0] 27) = w0 at *
  go_wp2_with fail
  go_loopw [4] (fun i wr => ∃ (k : Nat) (Rs : List RuleP) (v : Value), k ≤ rs.length ∧ i = .int .i64 (k : Int) ∧ Hid (Rs = (rs.take k).map DraftR.rule) ∧ Hid (MS w #[.slice p1 d.rules.length c1, .slice p2 d.zones.length c2, .slice p3 d.eras.length c3, .slice p4 d.links.length c4, .slice p5 d.shifts.length c5] Rs [] [] [] v (.slice none 0 0) (.slice none 0 0) (.slice none 0 0) wr)) (fun i _ => rs.length - (intOf i).toNat)
  case atStart => exact ⟨0, [], _, Nat.zero_le _, rfl, Lib.hid rfl, HS⟩
  case round =>
  clear HS
  obtain ⟨k, Rs, v, hk, rfl, HI, HS⟩ := hrel
  go_upto_region 3 with fail
  go_cut [21] from 13 to 34 (fun sc wx => sc = .bool (decide (k < rs.length)) ∧ wr = wx)
  case first =>
    have c1 := HS.out.src.cell_ (i := 0) rfl
    by_cases h1 : k < d.rules.length
    · have hd1 : decide ((k : Int) < (d.rules.length : Int)) = true := decide_eq_true (by omega)
      by_cases h2 : k < 12
      · have hd2 : decide ((k : Int) < 12) = true := decide_eq_true (by omega)
        have H12 := Lib.hid (And.intro h1 h2)
        go_wp2_with fail
        go_meet
        exact ⟨congrArg Value.bool (decide_eq_true ((HS_r.out.1 k).2 H12.out)).symm, rfl⟩
      · have hd2 : decide ((k : Int) < 12) = false := decide_eq_false (by omega)
        go_wp2_with fail
        go_meet
        exact ⟨congrArg Value.bool (decide_eq_false (fun h => h2 ((HS_r.out.1 k).1 h).2)).symm, rfl⟩
    · have hd1 : decide ((k : Int) < (d.rules.length : Int)) = false := decide_eq_false (by omega)
      go_wp2_with fail
      go_meet
      exact ⟨congrArg Value.bool (decide_eq_false (fun h => h1 ((HS_r.out.1 k).1 h).1)).symm, rfl⟩
  case rest =>
    obtain ⟨rfl, rfl⟩ := hcut
    by_cases hlt : k < rs.length
    · have hdc : decide (k < rs.length) = true := decide_eq_true hlt
      obtain ⟨x, hx⟩ : ∃ x, rs[k]? = some x := ⟨_, List.getElem?_eq_getElem hlt⟩
      have hx0 := HS_r.out.2.2 k x hx
      obtain ⟨b, o, rfl, hbn, hrow⟩ := HR1.out (by intro h0; rw [h0] at hx0; simp at hx0)
      have HX := Lib.hid (show ∀ W, Below w.heap.size w W → W.rangeAt b (o + k * 11) x.cells.toList from fun W hW j v hv => (hW.cell (p := ⟨b, o + k * 11 + j, none⟩) hbn).trans (hrow k x hx0 j v hv))
      have HN := Lib.hid (made10_row x (HOK.out.rules x (List.mem_of_getElem? hx0)))
      have HO1 := Lib.hid (show ∀ u ∈ x.rule.cells.toList, u.oneCell' = true from fun u hu => by have := (rule_cells x.rule).2; rw [Array.all_eq_true_iff_forall_mem] at this; exact this u (by simpa using hu))
      have hl12 := HS_r.out.2.1
      have HRl := Lib.hid (show Rs.length = k from by rw [HI.out]; simp; omega)
      have k0 : (0 : Int) ≤ (k : Int) := by omega
      have kl : (k : Int) < (d.rules.length : Int) := by have := ((HS_r.out.1 k).1 hlt).1; omega
      have HI9 := Lib.hid (show Rs ++ [x.rule] = (rs.take (k + 1)).map DraftR.rule from by rw [HI.out, List.take_add_one, hx]; simp)
      clear hx hx0 hrow hbn
      obtain ⟨L, hL⟩ : ∃ L, wr.heap.size = L := ⟨_, rfl⟩
      have HLL := Lib.hid (show Low L v from by rw [← hL]; exact low_of HS.out.sb.rule)
      obtain ⟨q1, d1, rfl⟩ := own_form HS.out.sb.rule
      go_upto_region 5 with fail
      refine wp_region_relsG 11 [[], [], [], [], [], [], [], [], [], [8], []] [Form.val, Form.val, Form.val, Form.val, Form.val, Form.val, Form.val, Form.val, Form.rel (One 47 L x.rule.cells), Form.rel (RuleO w.heap.size (Rs ++ [x.rule])), Form.val] (fun W => MS w #[.slice (some ⟨b, o, none⟩) d.rules.length c1, .slice p2 d.zones.length c2, .slice p3 d.eras.length c3, .slice p4 d.links.length c4, .slice p5 d.shifts.length c5] Rs [] [] [] (.slice q1 Rs.length d1) (.slice none 0 0) (.slice none 0 0) (.slice none 0 0) W ∧ L ≤ W.heap.size) (GRule w.heap.size Rs (.slice q1 Rs.length d1)) 9 (by kernel_rfl) (by kernel_rfl) rfl rfl (⟨HS.out.below (Below.refl _ _).drew, by rw [← hL]; exact Nat.le_refl _⟩) GOwn.of_below (fun W W2 h => h.1.size) (fun W W2 k h => ⟨k.1.grule h, Nat.le_trans k.2 h.1.size⟩) ⟨lastsG_one HLL.out, OwnR.last _ _ _ _ _, trivial⟩ ?_
      repeat (first | apply exSpec_rel | apply exSpec_new | apply exSpec_val)
      apply relWalkR_ex rfl rfl ?op0 (fun K hK => ?np0)
      case op0 =>
        intro W hC hF
        have c0 := hC.1.src.cell_ (i := 0) rfl
        have s0 := hC.1.sb.out.cell_ (i := 0) rfl
        go_simp
        all_goals first | exact ⟨Below.refl _ _, rfl⟩ | exact Below.refl _ _
      case' np0 =>
        go_simp
        refine hK _ ?_
        clear hK K
      apply relWalkR_ex rfl rfl ?op1 (fun K hK => ?np1)
      case op1 =>
        intro W hC hF
        have c0 := hC.1.src.cell_ (i := 0) rfl
        have s0 := hC.1.sb.out.cell_ (i := 0) rfl
        go_simp
        all_goals first | exact ⟨Below.refl _ _, rfl⟩ | exact Below.refl _ _
      case' np1 =>
        go_simp
        refine hK _ ?_
        clear hK K
      apply relWalkR_ex rfl rfl ?op2 (fun K hK => ?np2)
      case op2 =>
        intro W hC hF
        have c0 := hC.1.src.cell_ (i := 0) rfl
        have s0 := hC.1.sb.out.cell_ (i := 0) rfl
        go_simp
        all_goals first | exact ⟨Below.refl _ _, rfl⟩ | exact Below.refl _ _
      case' np2 =>
        go_simp
        refine hK _ ?_
        clear hK K
      apply relWalkR_ex rfl rfl ?op3 (fun K hK => ?np3)
      case op3 =>
        intro W hC hF
        have c0 := hC.1.src.cell_ (i := 0) rfl
        have s0 := hC.1.sb.out.cell_ (i := 0) rfl
        go_simp
        all_goals first | exact ⟨Below.refl _ _, rfl⟩ | exact Below.refl _ _
      case' np3 =>
        go_simp
        refine hK _ ?_
        clear hK K
      apply relWalkR_ex rfl rfl ?op4 (fun K hK => ?np4)
      case op4 =>
        intro W hC hF
        have c0 := hC.1.src.cell_ (i := 0) rfl
        have s0 := hC.1.sb.out.cell_ (i := 0) rfl
        go_simp
        all_goals first | exact ⟨Below.refl _ _, rfl⟩ | exact Below.refl _ _
      case' np4 =>
        go_simp
        refine hK _ ?_
        clear hK K
      apply relWalkR_ex rfl rfl ?op5 (fun K hK => ?np5)
      case op5 =>
        intro W hC hF
        have c0 := hC.1.src.cell_ (i := 0) rfl
        have s0 := hC.1.sb.out.cell_ (i := 0) rfl
        go_simp
        all_goals first | exact ⟨Below.refl _ _, rfl⟩ | exact Below.refl _ _
      case' np5 =>
        go_simp
        refine hK _ ?_
        clear hK K
      apply relWalkR_ex rfl rfl ?op6 (fun K hK => ?np6)
      case op6 =>
        intro W hC hF
        exact relAt_load_arr 99 (.tmp 29) rfl b (o + k * 11) rfl x.cells _ (HX.out W hC.1.bel) Tryz.underlying99 rfl (by kernel_rfl)
      case' np6 =>
        go_simp
        refine hK _ ?_
        clear hK K
      apply relWalkR_ex rfl rfl ?op7 (fun K hK => ?np7)
      case op7 =>
        intro W hC hF
        go_simp
        all_goals exact (HN.out W).mono fun e w2 ⟨he, hb⟩ => ⟨he, hb⟩
      case' np7 =>
        go_simp
        refine hK _ ?_
        clear hK K
      apply relWalkR_rel rfl rfl ?op8 (fun u8 K hK => ?np8)
      case op8 =>
        intro W hC hF
        exact relAt_one rfl irule zrule Tryz.underlying22 hirule hzrule x.rule.cells rfl hszrule hzcrule (show 0 < 11 by decide) (show 11 ≤ 1000 by decide) L hC.2
      case' np8 =>
        go_simp
        refine hK _ ?_
        clear hK K
      apply relWalkR_wr rfl rfl ?op9 (fun u9 K hK => ?np9)
      case op9 =>
        intro W hC hF
        obtain ⟨⟨g1, rfl, hb1, hg1⟩, -⟩ := hF
        refine relAtR_push rfl w.heap.size irule zrule 11 Tryz.underlying22 hirule hzrule hszrule hbyrule hzcrule (by decide) (.slice q1 Rs.length d1) Rs.length (flatC RuleP.cells Rs) rfl hC.1.sb.rule g1 1 x.rule.cells rfl hb1 rfl HO1.out (by have := HRl.out; omega) hC.1.bel.size (fun v' w' hown hG => ?_)
        show World.ownsRow _ _ _ _ _ _ _
        rw [List.length_append, flatC_snoc]
        exact hown
      case' np9 =>
        go_simp
        refine hK _ ?_
        clear hK K
      apply relWalkR_ex rfl rfl ?op10 (fun K hK => ?np10)
      case op10 =>
        intro W hC hF
        have c0 := hC.1.src.cell_ (i := 0) rfl
        have s0 := hC.1.sb.out.cell_ (i := 0) rfl
        go_simp
        all_goals first | exact ⟨Below.refl _ _, rfl⟩ | exact Below.refl _ _
      case' np10 =>
        go_simp
        refine hK _ ?_
        clear hK K
      apply relWalkR_end
      intro W hC hF hU
      obtain ⟨h9, -⟩ := hF
      have HS9 := Lib.hid (hC.1.srule h9)
      have s0 := hC.1.sb.out.cell_ (i := 0) rfl
      have f0 := hC.1.sb.out.frozen 0
      obtain ⟨q9, d9, rfl⟩ := own_form h9
      rw [show (Rs ++ [x.rule]).length = Rs.length + 1 from by simp] at HS9
      clear hU hC h9 HS HI HX HN HO1 HLL hL HRl
      go_wp2_with fail
      go_roundw
      case rel => exact ⟨k + 1, _, _, by omega, by go_num, HI9, HS9⟩
      case measure => simp [intOf]; omega
    · have hdc : decide (k < rs.length) = false := decide_eq_false hlt
      obtain rfl : k = rs.length := by omega
      rw [hdc]
      have HE1 := Lib.hid (show Rs = rs.map DraftR.rule from by rw [HI.out, List.take_length])
      clear HI hlt hk
      clear HR1 HS_r
      obtain ⟨q1, d1, rfl⟩ := own_form HS.out.sb.rule
      generalize wr = w1 at *
      go_wp2_with fail
      go_loopw [5, 6, 7, 8, 9, 10] (fun s5 i _ _ _ _ wr => ∃ (k : Nat) (cur : List ZV) (zv : Value), k ≤ ns.length ∧ i = .int .i64 (k : Int) ∧ s5 = .int .i64 ((sumM (ns.take k) : Nat) : Int) ∧ Hid (cur.map (fun q => q.1.1) = zonesM d.eras 0 (ns.take k)) ∧ Hid (MS w #[.slice p1 d.rules.length c1, .slice p2 d.zones.length c2, .slice p3 d.eras.length c3, .slice p4 d.links.length c4, .slice p5 d.shifts.length c5] Rs cur [] [] (.slice q1 Rs.length d1) zv (.slice none 0 0) (.slice none 0 0) wr)) (fun _ i _ _ _ _ _ => ns.length - (intOf i).toNat)
      case atStart => exact ⟨0, [], _, Nat.zero_le _, rfl, rfl, Lib.hid rfl, HS⟩
      case round =>
      clear HS
      obtain ⟨k, cur, zv, hk, rfl, rfl, HI, HS⟩ := hrel
      go_upto_region 8 with fail
      go_cut [43] from 35 to 99 (fun sc wx => sc = .bool (decide (k < ns.length)) ∧ wr = wx)
      case first =>
        have c1 := HS.out.src.cell_ (i := 1) rfl
        by_cases h1 : k < d.zones.length
        · have hd1 : decide ((k : Int) < (d.zones.length : Int)) = true := decide_eq_true (by omega)
          by_cases h2 : k < 6
          · have hd2 : decide ((k : Int) < 6) = true := decide_eq_true (by omega)
            have H12 := Lib.hid (And.intro h1 h2)
            go_wp2_with fail
            go_meet
            exact ⟨congrArg Value.bool (decide_eq_true ((HS_z.out.1 k).2 H12.out)).symm, rfl⟩
          · have hd2 : decide ((k : Int) < 6) = false := decide_eq_false (by omega)
            go_wp2_with fail
            go_meet
            exact ⟨congrArg Value.bool (decide_eq_false (fun h => h2 ((HS_z.out.1 k).1 h).2)).symm, rfl⟩
        · have hd1 : decide ((k : Int) < (d.zones.length : Int)) = false := decide_eq_false (by omega)
          go_wp2_with fail
          go_meet
          exact ⟨congrArg Value.bool (decide_eq_false (fun h => h1 ((HS_z.out.1 k).1 h).1)).symm, rfl⟩
      case rest =>
        obtain ⟨rfl, rfl⟩ := hcut
        by_cases hlt : k < ns.length
        · have hdc : decide (k < ns.length) = true := decide_eq_true hlt
          obtain ⟨x, hx⟩ : ∃ x, ns[k]? = some x := ⟨_, List.getElem?_eq_getElem hlt⟩
          have hx0 := HS_z.out.2.2 k x hx
          have hx256 : x < 256 := HOK.out.zones x (List.mem_of_getElem? hx0)
          obtain ⟨b, o, rfl, hbn, hrow⟩ := HR2.out (by intro h0; rw [h0] at hx0; simp at hx0)
          have HX := Lib.hid (show ∀ W, Below w.heap.size w W → W.cell? ⟨b, o + k, none⟩ = some (.int .u8 (x : Int)) from fun W hW => (hW.cell (p := ⟨b, o + k, none⟩) hbn).trans (by have := hrow k x hx0 0 _ rfl; simpa using this))
          have hl6 := HS_z.out.2.1
          have HN := Lib.hid (show ∀ W, Calls Tryz.prog 51 #[.int .u8 ((x : Int) / 4)] W fun e w' => e = .returned (.string ⟨(znameM (x / 4)).toArray⟩) ∧ Below W.heap.size W w' from fun W => by have := name14_any (x / 4) W (by omega); simpa using this)
          have k0 : (0 : Int) ≤ (k : Int) := by omega
          have kl : (k : Int) < (d.zones.length : Int) := by have := ((HS_z.out.1 k).1 hlt).1; omega
          have HT := Lib.hid (show zonesM d.eras 0 (ns.take (k + 1)) = zonesM d.eras 0 (ns.take k) ++ [zoneM d.eras (sumM (ns.take k)) x] ∧ sumM (ns.take (k + 1)) = sumM (ns.take k) + (1 + x % 4) from by
            rw [List.take_add_one, hx]
            exact ⟨by rw [Option.toList_some, zonesM_snoc, Nat.zero_add], sumM_snoc _ _⟩)
          have hKb : sumM (ns.take k) ≤ 24 := by have := sumM_le (ns.take k); rw [List.length_take] at this; omega
          generalize sumM (ns.take k) = K at *
          have e1 := HX.out wr HS.out.bel
          have c1 := HS.out.src.cell_ (i := 1) rfl
          have hq : (x : Int).tdiv 4 = (x : Int) / 4 := Int.tdiv_eq_ediv_of_nonneg (by omega)
          have hr : (x : Int).tmod 4 = (x : Int) % 4 := Int.tmod_eq_emod_of_nonneg (by omega)
          clear hx hx0 hrow hbn
          go_wp2_with fail
          refine (HN.out _).mono ?_
          rintro e w2 ⟨rfl, hb⟩
          have HS2 := Lib.hid (HS.out.below hb)
          have hsz := hb.size
          clear hb e1 c1 HS
          go_upto_region 11 with fail
          have HI0 := Lib.hid (show IS w #[.slice p1 d.rules.length c1, .slice (some ⟨b, o, none⟩) d.zones.length c2, .slice p3 d.eras.length c3, .slice p4 d.links.length c4, .slice p5 d.shifts.length c5] Rs cur [] [] (.slice q1 Rs.length d1) zv (.slice none 0 0) (.slice none 0 0) w2.heap.size w2.heap.size (znameM (x / 4)) [] (.slice none 0 0) (w2.alloc (.cells #[.string ⟨(znameM (x / 4)).toArray⟩, .slice none 0 0] 50)) from ⟨HS2.out.below ((Below.refl _ _).alloc (Nat.le_refl _) _), Blk.new' _ _ _ rfl, Nat.le_refl _, World.ownsRow_nil .., low_of HS2.out.sb.zone, fun q hq => low_of (HS2.out.sb.eras q hq), by have := HS2.out.sb.out.lt; omega⟩)
          generalize w2.alloc (.cells #[.string ⟨(znameM (x / 4)).toArray⟩, .slice none 0 0] 50) = w3 at *
          clear HS2 hsz
          generalize w2.heap.size = L at *
          obtain ⟨N, hN0⟩ : ∃ N, 1 + x % 4 = N := ⟨_, rfl⟩
          have hN : 1 + (x : Int) % 4 = (N : Int) := by omega
          have hN4 : N ≤ 4 := by omega
          have HN0 := Lib.hid hN0
          have e1 := HX.out w3 HI0.out.ms.bel
          have c1 := HI0.out.ms.src.cell_ (i := 1) rfl
          have hw1 : IntKind.i64.wrap ((x : Int) % 4) = (x : Int) % 4 := IntWalk.i64_in _ (by omega)
          clear HX HN hq hN0
          generalize hnm : znameM (x / 4) = nm at *
          have HNM := Lib.hid hnm
          clear hnm
          go_wp2_with fail
          clear e1 c1 hw1 hr hN
          go_loopw [5, 9, 10] (fun s5 i _ wr => ∃ (t : Nat) (es : List EraP) (ev : Value), t ≤ N ∧ i = .int .i64 (t : Int) ∧ s5 = .int .i64 ((K + t : Nat) : Int) ∧ Hid (es = erasM d.eras K N t) ∧ Hid (IS w #[.slice p1 d.rules.length c1, .slice (some ⟨b, o, none⟩) d.zones.length c2, .slice p3 d.eras.length c3, .slice p4 d.links.length c4, .slice p5 d.shifts.length c5] Rs cur [] [] (.slice q1 Rs.length d1) zv (.slice none 0 0) (.slice none 0 0) L L nm es ev wr)) (fun _ i _ _ => N - (intOf i).toNat)
          case atStart => exact ⟨0, [], _, Nat.zero_le _, rfl, rfl, Lib.hid rfl, HI0⟩
          case round =>
            clear HI0
            obtain ⟨t, es, ev, ht, rfl, rfl, HE, HS⟩ := hrel
            by_cases hlt2 : t < N
            · have hd : decide ((t : Int) < (N : Int)) = true := by simp; omega
              go_upto_region 16 with fail
              have HX5 := Lib.hid (show Below wr.heap.size wr (wr.alloc (.cells #[.int .i32 0, .int .i32 0, .int .i32 0, .int .u8 0, .int .u8 0, .int .u8 0, .int .u16 0, .int .u8 0, .int .u8 0, .int .u8 0, .int .u8 0, .int .u8 0] 66)) ∧ Blk (wr.alloc (.cells #[.int .i32 0, .int .i32 0, .int .i32 0, .int .u8 0, .int .u8 0, .int .u8 0, .int .u16 0, .int .u8 0, .int .u8 0, .int .u8 0, .int .u8 0, .int .u8 0] 66)) wr.heap.size 66 #[.int .i32 0, .int .i32 0, .int .i32 0, .int .u8 0, .int .u8 0, .int .u8 0, .int .u16 0, .int .u8 0, .int .u8 0, .int .u8 0, .int .u8 0, .int .u8 0] from ⟨(Below.refl _ _).alloc (Nat.le_refl _) _, Blk.new' _ _ _ rfl⟩)
              generalize wr.alloc (.cells #[.int .i32 0, .int .i32 0, .int .i32 0, .int .u8 0, .int .u8 0, .int .u8 0, .int .u16 0, .int .u8 0, .int .u8 0, .int .u8 0, .int .u8 0, .int .u8 0] 66) = w5 at *
              obtain ⟨en, hen⟩ : ∃ en, decide (t + 1 < N) = en := ⟨_, rfl⟩
              have he2 : decide ((t : Int) + 1 < (N : Int)) = en := by rw [← hen]; exact decide_eq_decide.2 (by omega)
              have HEN := Lib.hid hen
              have hwt : IntKind.i64.wrap ((t : Int) + 1) = (t : Int) + 1 := IntWalk.i64_in _ (by omega)
              have HXO := Lib.hid (eraAt_ok HOK.out.eras (K + t))
              have cc2 := (HS.out.below HX5.out.1).ms.src.cell_ (i := 2) rfl
              by_cases he : d.eras = []
              · have hd3 : decide ((0 : Int) < (d.eras.length : Int)) = false := by rw [he]; rfl
                have hn0 : ¬ 0 < d.eras.length := by rw [he]; simp
                have hX0 : eraAt d.eras (K + t) = DraftE.zero := by unfold eraAt; rw [he]; rfl
                obtain ⟨X, hXX⟩ : ∃ X, eraAt d.eras (K + t) = X := ⟨_, rfl⟩
                have HXE := Lib.hid hXX
                rw [hXX] at HXO hX0
                clear hXX
                have HZ := Lib.hid (show IS w #[.slice p1 d.rules.length c1, .slice (some ⟨b, o, none⟩) d.zones.length c2, .slice p3 d.eras.length c3, .slice p4 d.links.length c4, .slice p5 d.shifts.length c5] Rs cur [] [] (.slice q1 Rs.length d1) zv (.slice none 0 0) (.slice none 0 0) L L nm es ev w5 ∧ Blk w5 wr.heap.size 66 X.cells from ⟨HS.out.below HX5.out.1, by rw [hX0]; exact HX5.out.2⟩)
                clear he hX0 HX5 HS
                go_upto_region 18 with fail
                clear cc2 hd3 hn0
                generalize wr.heap.size = gx at *
                have HN := Lib.hid (fun W => emade14_any X HXO.out en W)
                have HO1 := Lib.hid (show ∀ u ∈ (X.era en).cells.toList, u.oneCell' = true from fun u hu => by have := (eraOk_cells (X.era en)).2; rw [Array.all_eq_true_iff_forall_mem] at this; exact this u (by simpa using hu))
                have HEL := Lib.hid (show es.length ≤ 1048576 from by rw [HE.out]; simp [erasM]; omega)
                obtain ⟨L2, hL2⟩ : ∃ L2, w5.heap.size = L2 := ⟨_, rfl⟩
                have HLL := Lib.hid (show Low L2 ev from by rw [← hL2]; exact low_of HZ.out.1.era)
                obtain ⟨q7, d7, rfl⟩ := own_form HZ.out.1.era
                go_upto_region 19 with fail
                refine wp_region_relsG 11 [[], [], [], [], [], [], [], [], [], [8], []] [Form.val, Form.val, Form.val, Form.val, Form.val, Form.val, Form.val, Form.val, Form.rel (One 55 L2 (X.era en).cells), Form.rel (EraO L (es ++ [X.era en])), Form.val] (fun W => IS w #[.slice p1 d.rules.length c1, .slice (some ⟨b, o, none⟩) d.zones.length c2, .slice p3 d.eras.length c3, .slice p4 d.links.length c4, .slice p5 d.shifts.length c5] Rs cur [] [] (.slice q1 Rs.length d1) zv (.slice none 0 0) (.slice none 0 0) L L nm es (.slice q7 es.length d7) W ∧ Blk W gx 66 X.cells ∧ L2 ≤ W.heap.size) (GEra L es (.slice q7 es.length d7)) 9 (by kernel_rfl) (by kernel_rfl) rfl rfl (⟨HZ.out.1.below (Below.refl _ _).drew, HZ.out.2, by rw [← hL2]; exact Nat.le_refl _⟩) GOwn.of_below (fun W W2 h => h.1.size) (fun W W2 k h => ⟨k.1.gera h, blk_grown k.2.1 h.1 k.1.era (by decide), Nat.le_trans k.2.2 h.1.size⟩) ⟨lastsG_one HLL.out, OwnR.last _ _ _ _ _, trivial⟩ ?_
                repeat (first | apply exSpec_rel | apply exSpec_new | apply exSpec_val)
                apply relWalkR_ex rfl rfl ?oa0 (fun K hK => ?na0)
                case oa0 =>
                  intro W hC hF
                  have s1 := hC.1.zb.cell_ (i := 1) rfl
                  have hlt := hC.1.zb.lt
                  go_simp
                  all_goals first | exact ⟨Below.refl _ _, rfl⟩ | exact Below.refl _ _
                case' na0 =>
                  go_simp
                  refine hK _ ?_
                  clear hK K
                apply relWalkR_ex rfl rfl ?oa1 (fun K hK => ?na1)
                case oa1 =>
                  intro W hC hF
                  have s1 := hC.1.zb.cell_ (i := 1) rfl
                  have hlt := hC.1.zb.lt
                  go_simp
                  all_goals first | exact ⟨Below.refl _ _, rfl⟩ | exact Below.refl _ _
                case' na1 =>
                  go_simp
                  refine hK _ ?_
                  clear hK K
                apply relWalkR_ex rfl rfl ?oa2 (fun K hK => ?na2)
                case oa2 =>
                  intro W hC hF
                  exact relAt_load 66 (.tmp 10) rfl gx rfl 66 X.cells _ hC.2.1 Tryz.underlying66 rfl (show (Tryz.prog.info? 66).map (·.size) = some 12 from by kernel_rfl)
                case' na2 =>
                  go_simp
                  refine hK _ ?_
                  clear hK K
                apply relWalkR_ex rfl rfl ?oa3 (fun K hK => ?na3)
                case oa3 =>
                  intro W hC hF
                  have s1 := hC.1.zb.cell_ (i := 1) rfl
                  have hlt := hC.1.zb.lt
                  go_simp
                  all_goals first | exact ⟨Below.refl _ _, rfl⟩ | exact Below.refl _ _
                case' na3 =>
                  go_simp
                  refine hK _ ?_
                  clear hK K
                apply relWalkR_ex rfl rfl ?oa4 (fun K hK => ?na4)
                case oa4 =>
                  intro W hC hF
                  have s1 := hC.1.zb.cell_ (i := 1) rfl
                  have hlt := hC.1.zb.lt
                  go_simp
                  all_goals first | exact ⟨Below.refl _ _, rfl⟩ | exact Below.refl _ _
                case' na4 =>
                  go_simp
                  refine hK _ ?_
                  clear hK K
                apply relWalkR_ex rfl rfl ?oa5 (fun K hK => ?na5)
                case oa5 =>
                  intro W hC hF
                  have s1 := hC.1.zb.cell_ (i := 1) rfl
                  have hlt := hC.1.zb.lt
                  go_simp
                  all_goals first | exact ⟨Below.refl _ _, rfl⟩ | exact Below.refl _ _
                case' na5 =>
                  go_simp
                  refine hK _ ?_
                  clear hK K
                apply relWalkR_ex rfl rfl ?oa6 (fun K hK => ?na6)
                case oa6 =>
                  intro W hC hF
                  have s1 := hC.1.zb.cell_ (i := 1) rfl
                  have hlt := hC.1.zb.lt
                  go_simp
                  all_goals first | exact ⟨Below.refl _ _, rfl⟩ | exact Below.refl _ _
                case' na6 =>
                  go_simp
                  refine hK _ ?_
                  clear hK K
                apply relWalkR_ex rfl rfl ?oa7 (fun K hK => ?na7)
                case oa7 =>
                  intro W hC hF
                  go_simp
                  all_goals exact (HN.out W).mono fun e w2 ⟨he, hb⟩ => ⟨he, hb⟩
                case' na7 =>
                  go_simp
                  refine hK _ ?_
                  clear hK K
                apply relWalkR_rel rfl rfl ?oa8 (fun u8 K hK => ?na8)
                case oa8 =>
                  intro W hC hF
                  exact relAt_one rfl iera zera Tryz.underlying48 hiera hzera (X.era en).cells rfl hszera hzcera (show 0 < 13 by decide) (show 13 ≤ 1000 by decide) L2 hC.2.2
                case' na8 =>
                  go_simp
                  refine hK _ ?_
                  clear hK K
                apply relWalkR_wr rfl rfl ?oa9 (fun u9 K hK => ?na9)
                case oa9 =>
                  intro W hC hF
                  obtain ⟨⟨g1, rfl, hb1, hg1⟩, -⟩ := hF
                  refine relAtR_push rfl L iera zera 13 Tryz.underlying48 hiera hzera hszera hbyera hzcera (by decide) (.slice q7 es.length d7) es.length (flatC EraP.cells es) rfl hC.1.era g1 1 (X.era en).cells rfl hb1 rfl HO1.out HEL.out (Nat.le_of_lt hC.1.zb.lt) (fun v' w' hown hG => ?_)
                  show World.ownsRow _ _ _ _ _ _ _
                  rw [List.length_append, flatC_snoc]
                  exact hown
                case' na9 =>
                  go_simp
                  refine hK _ ?_
                  clear hK K
                apply relWalkR_ex rfl rfl ?oa10 (fun K hK => ?na10)
                case oa10 =>
                  intro W hC hF
                  have s1 := hC.1.zb.cell_ (i := 1) rfl
                  have hlt := hC.1.zb.lt
                  go_simp
                  all_goals first | exact ⟨Below.refl _ _, rfl⟩ | exact Below.refl _ _
                case' na10 =>
                  go_simp
                  refine hK _ ?_
                  clear hK K
                apply relWalkR_end
                intro W hC hF hU
                obtain ⟨h9, -⟩ := hF
                have HS9 := Lib.hid (hC.1.sera h9)
                have s1 := hC.1.zb.cell_ (i := 1) rfl
                have f1 := hC.1.zb.frozen 1
                obtain ⟨q9, d9, rfl⟩ := own_form h9
                rw [show (es ++ [X.era en]).length = es.length + 1 from by simp] at HS9
                have HE9 := Lib.hid (show es ++ [X.era en] = erasM d.eras K N (t + 1) from by rw [HE.out, erasM_snoc, HXE.out, HEN.out])
                clear hU hC h9 HZ HE HN HO1 HLL hL2 HEL HXO HXE HEN he2 hen hwt
                go_wp2_with fail
                go_roundw
                case rel => exact ⟨t + 1, _, _, by omega, by go_num, by go_num, HE9, HS9⟩
                case measure => simp [intOf]; omega
              · have hl0 : 0 < d.eras.length := List.length_pos_iff.2 he
                obtain ⟨b3, o3, rfl, hbn3, hrow3⟩ := HR3.out he
                have hd3 : decide ((0 : Int) < (d.eras.length : Int)) = true := by simp; omega
                obtain ⟨rr, hrr⟩ : ∃ rr, (K + t) % d.eras.length = rr := ⟨_, rfl⟩
                have hrl : rr < d.eras.length := by rw [← hrr]; exact Nat.mod_lt _ hl0
                have hm : ((K + t : Nat) : Int).tmod (d.eras.length : Int) = (rr : Int) := by rw [Int.tmod_eq_emod_of_nonneg (Int.natCast_nonneg _), ← hrr]; exact (Int.natCast_emod _ _).symm
                have hm2 : ((K : Int) + (t : Int)).tmod (d.eras.length : Int) = (rr : Int) := hm
                have hx3 : d.eras[rr]? = some (eraAt d.eras (K + t)) := by
                  unfold eraAt
                  rw [hrr, List.getD_eq_getElem?_getD, List.getElem?_eq_getElem hrl]
                  rfl
                obtain ⟨X, hXX⟩ : ∃ X, eraAt d.eras (K + t) = X := ⟨_, rfl⟩
                have HXE := Lib.hid hXX
                rw [hXX] at HXO hx3
                clear hXX
                have HX3 := Lib.hid (show ∀ W, Below w.heap.size w W → W.rangeAt b3 (o3 + rr * 12) X.cells.toList from fun W hW j v hv => (hW.cell (p := ⟨b3, o3 + rr * 12 + j, none⟩) hbn3).trans (hrow3 rr X hx3 j v hv))
                have r0 : (0 : Int) ≤ (rr : Int) := by omega
                have rl : (rr : Int) < (d.eras.length : Int) := by omega
                have hz1 : (d.eras.length : Int) ≠ 0 := by omega
                have hz2 : ((d.eras.length : Int) == 0) = false := beq_eq_false_iff_ne.2 hz1
                clear hx3 hrow3 hbn3 hrr
                go_upto_region 17 with fail
                clear cc2
                refine wp_region_rels 9 [[], [], [], [], [], [], [], [], []] [Form.val, Form.val, Form.val, Form.val, Form.val, Form.val, Form.val, Form.val, Form.val] (fun W => Below wr.heap.size wr W ∧ Blk W wr.heap.size 66 #[.int .i32 0, .int .i32 0, .int .i32 0, .int .u8 0, .int .u8 0, .int .u8 0, .int .u16 0, .int .u8 0, .int .u8 0, .int .u8 0, .int .u8 0, .int .u8 0]) (by kernel_rfl) (by kernel_rfl) rfl rfl (⟨HX5.out.1.drew, HX5.out.2⟩) (fun W W2 k hb => ⟨k.1.trans (hb.mono k.1.size), k.2.below hb k.2.lt⟩) trivial ?_
                repeat (first | apply exSpec_rel | apply exSpec_new | apply exSpec_val)
                apply relWalk_ex rfl ?or0 (fun K hK => ?nr0)
                case or0 =>
                  intro W hC hF
                  have cc2 := (HS.out.below hC.1).ms.src.cell_ (i := 2) rfl
                  go_simp
                  all_goals exact ⟨Below.refl _ _, rfl⟩
                case' nr0 =>
                  go_simp
                  refine hK _ ?_
                  clear hK K
                apply relWalk_ex rfl ?or1 (fun K hK => ?nr1)
                case or1 =>
                  intro W hC hF
                  have cc2 := (HS.out.below hC.1).ms.src.cell_ (i := 2) rfl
                  go_simp
                  all_goals exact ⟨Below.refl _ _, rfl⟩
                case' nr1 =>
                  go_simp
                  refine hK _ ?_
                  clear hK K
                apply relWalk_ex rfl ?or2 (fun K hK => ?nr2)
                case or2 =>
                  intro W hC hF
                  have cc2 := (HS.out.below hC.1).ms.src.cell_ (i := 2) rfl
                  go_simp
                  all_goals exact ⟨Below.refl _ _, rfl⟩
                case' nr2 =>
                  go_simp
                  refine hK _ ?_
                  clear hK K
                apply relWalk_ex rfl ?or3 (fun K hK => ?nr3)
                case or3 =>
                  intro W hC hF
                  have cc2 := (HS.out.below hC.1).ms.src.cell_ (i := 2) rfl
                  go_simp
                  all_goals exact ⟨Below.refl _ _, rfl⟩
                case' nr3 =>
                  go_simp
                  refine hK _ ?_
                  clear hK K
                apply relWalk_ex rfl ?or4 (fun K hK => ?nr4)
                case or4 =>
                  intro W hC hF
                  have cc2 := (HS.out.below hC.1).ms.src.cell_ (i := 2) rfl
                  go_simp
                  all_goals exact ⟨Below.refl _ _, rfl⟩
                case' nr4 =>
                  go_simp
                  refine hK _ ?_
                  clear hK K
                apply relWalk_ex rfl ?or5 (fun K hK => ?nr5)
                case or5 =>
                  intro W hC hF
                  have cc2 := (HS.out.below hC.1).ms.src.cell_ (i := 2) rfl
                  go_simp
                  all_goals exact ⟨Below.refl _ _, rfl⟩
                case' nr5 =>
                  go_simp
                  refine hK _ ?_
                  clear hK K
                apply relWalk_ex rfl ?or6 (fun K hK => ?nr6)
                case or6 =>
                  intro W hC hF
                  have cc2 := (HS.out.below hC.1).ms.src.cell_ (i := 2) rfl
                  go_simp
                  all_goals exact ⟨Below.refl _ _, rfl⟩
                case' nr6 =>
                  go_simp
                  refine hK _ ?_
                  clear hK K
                apply relWalk_ex rfl ?or7 (fun K hK => ?nr7)
                case or7 =>
                  intro W hC hF
                  have cc2 := (HS.out.below hC.1).ms.src.cell_ (i := 2) rfl
                  go_simp
                  all_goals exact ⟨Below.refl _ _, rfl⟩
                case' nr7 =>
                  go_simp
                  refine hK _ ?_
                  clear hK K
                apply relWalk_ex rfl ?or8 (fun K hK => ?nr8)
                case or8 =>
                  intro W hC hF
                  exact relAt_load_arr 66 (.tmp 79) rfl b3 (o3 + rr * 12) rfl X.cells _ (HX3.out W (HS.out.below hC.1).ms.bel) Tryz.underlying66 rfl (show (Tryz.prog.info? 66).map (·.size) = some 12 from by kernel_rfl)
                case' nr8 =>
                  go_simp
                  refine hK _ ?_
                  clear hK K
                apply relWalk_end
                intro W hC hF hU
                obtain ⟨h1, h2⟩ := hC
                refine wpList_store_mid rfl 66 (.tmp 10) (.tmp 80) rfl wr.heap.size 0 X.cells rfl rfl (h2.there (show 12 ≤ 12 from Nat.le_refl _)) (show (Tryz.prog.info? 66).map (·.size) = some 12 from by kernel_rfl) (by simp [DraftE.cells, Value.oneCell']) ?_
                have HZ := Lib.hid (show IS w #[.slice p1 d.rules.length c1, .slice (some ⟨b, o, none⟩) d.zones.length c2, .slice (some ⟨b3, o3, none⟩) d.eras.length c3, .slice p4 d.links.length c4, .slice p5 d.shifts.length c5] Rs cur [] [] (.slice q1 Rs.length d1) zv (.slice none 0 0) (.slice none 0 0) L L nm es ev (W.setCells wr.heap.size 0 X.cells.toList) ∧ Blk (W.setCells wr.heap.size 0 X.cells.toList) wr.heap.size 66 X.cells from ⟨HS.out.below (below_sets (Nat.le_refl _) _ _ _ h1), h2.setAll X.cells rfl⟩)
                generalize W.setCells wr.heap.size 0 X.cells.toList = w5 at *
                clear he hl0 hd3 hrl hm hm2 HX3 r0 rl hz1 hz2 h1 h2 HX5 HS hU
                go_upto_region 18 with fail
                generalize wr.heap.size = gx at *
                have HN := Lib.hid (fun W => emade14_any X HXO.out en W)
                have HO1 := Lib.hid (show ∀ u ∈ (X.era en).cells.toList, u.oneCell' = true from fun u hu => by have := (eraOk_cells (X.era en)).2; rw [Array.all_eq_true_iff_forall_mem] at this; exact this u (by simpa using hu))
                have HEL := Lib.hid (show es.length ≤ 1048576 from by rw [HE.out]; simp [erasM]; omega)
                obtain ⟨L2, hL2⟩ : ∃ L2, w5.heap.size = L2 := ⟨_, rfl⟩
                have HLL := Lib.hid (show Low L2 ev from by rw [← hL2]; exact low_of HZ.out.1.era)
                obtain ⟨q7, d7, rfl⟩ := own_form HZ.out.1.era
                go_upto_region 19 with fail
                refine wp_region_relsG 11 [[], [], [], [], [], [], [], [], [], [8], []] [Form.val, Form.val, Form.val, Form.val, Form.val, Form.val, Form.val, Form.val, Form.rel (One 55 L2 (X.era en).cells), Form.rel (EraO L (es ++ [X.era en])), Form.val] (fun W => IS w #[.slice p1 d.rules.length c1, .slice (some ⟨b, o, none⟩) d.zones.length c2, .slice (some ⟨b3, o3, none⟩) d.eras.length c3, .slice p4 d.links.length c4, .slice p5 d.shifts.length c5] Rs cur [] [] (.slice q1 Rs.length d1) zv (.slice none 0 0) (.slice none 0 0) L L nm es (.slice q7 es.length d7) W ∧ Blk W gx 66 X.cells ∧ L2 ≤ W.heap.size) (GEra L es (.slice q7 es.length d7)) 9 (by kernel_rfl) (by kernel_rfl) rfl rfl (⟨HZ.out.1.below (Below.refl _ _).drew, HZ.out.2, by rw [← hL2]; exact Nat.le_refl _⟩) GOwn.of_below (fun W W2 h => h.1.size) (fun W W2 k h => ⟨k.1.gera h, blk_grown k.2.1 h.1 k.1.era (by decide), Nat.le_trans k.2.2 h.1.size⟩) ⟨lastsG_one HLL.out, OwnR.last _ _ _ _ _, trivial⟩ ?_
                repeat (first | apply exSpec_rel | apply exSpec_new | apply exSpec_val)
                apply relWalkR_ex rfl rfl ?ob0 (fun K hK => ?nb0)
                case ob0 =>
                  intro W hC hF
                  have s1 := hC.1.zb.cell_ (i := 1) rfl
                  have hlt := hC.1.zb.lt
                  go_simp
                  all_goals first | exact ⟨Below.refl _ _, rfl⟩ | exact Below.refl _ _
                case' nb0 =>
                  go_simp
                  refine hK _ ?_
                  clear hK K
                apply relWalkR_ex rfl rfl ?ob1 (fun K hK => ?nb1)
                case ob1 =>
                  intro W hC hF
                  have s1 := hC.1.zb.cell_ (i := 1) rfl
                  have hlt := hC.1.zb.lt
                  go_simp
                  all_goals first | exact ⟨Below.refl _ _, rfl⟩ | exact Below.refl _ _
                case' nb1 =>
                  go_simp
                  refine hK _ ?_
                  clear hK K
                apply relWalkR_ex rfl rfl ?ob2 (fun K hK => ?nb2)
                case ob2 =>
                  intro W hC hF
                  exact relAt_load 66 (.tmp 10) rfl gx rfl 66 X.cells _ hC.2.1 Tryz.underlying66 rfl (show (Tryz.prog.info? 66).map (·.size) = some 12 from by kernel_rfl)
                case' nb2 =>
                  go_simp
                  refine hK _ ?_
                  clear hK K
                apply relWalkR_ex rfl rfl ?ob3 (fun K hK => ?nb3)
                case ob3 =>
                  intro W hC hF
                  have s1 := hC.1.zb.cell_ (i := 1) rfl
                  have hlt := hC.1.zb.lt
                  go_simp
                  all_goals first | exact ⟨Below.refl _ _, rfl⟩ | exact Below.refl _ _
                case' nb3 =>
                  go_simp
                  refine hK _ ?_
                  clear hK K
                apply relWalkR_ex rfl rfl ?ob4 (fun K hK => ?nb4)
                case ob4 =>
                  intro W hC hF
                  have s1 := hC.1.zb.cell_ (i := 1) rfl
                  have hlt := hC.1.zb.lt
                  go_simp
                  all_goals first | exact ⟨Below.refl _ _, rfl⟩ | exact Below.refl _ _
                case' nb4 =>
                  go_simp
                  refine hK _ ?_
                  clear hK K
                apply relWalkR_ex rfl rfl ?ob5 (fun K hK => ?nb5)
                case ob5 =>
                  intro W hC hF
                  have s1 := hC.1.zb.cell_ (i := 1) rfl
                  have hlt := hC.1.zb.lt
                  go_simp
                  all_goals first | exact ⟨Below.refl _ _, rfl⟩ | exact Below.refl _ _
                case' nb5 =>
                  go_simp
                  refine hK _ ?_
                  clear hK K
                apply relWalkR_ex rfl rfl ?ob6 (fun K hK => ?nb6)
                case ob6 =>
                  intro W hC hF
                  have s1 := hC.1.zb.cell_ (i := 1) rfl
                  have hlt := hC.1.zb.lt
                  go_simp
                  all_goals first | exact ⟨Below.refl _ _, rfl⟩ | exact Below.refl _ _
                case' nb6 =>
                  go_simp
                  refine hK _ ?_
                  clear hK K
                apply relWalkR_ex rfl rfl ?ob7 (fun K hK => ?nb7)
                case ob7 =>
                  intro W hC hF
                  go_simp
                  all_goals exact (HN.out W).mono fun e w2 ⟨he, hb⟩ => ⟨he, hb⟩
                case' nb7 =>
                  go_simp
                  refine hK _ ?_
                  clear hK K
                apply relWalkR_rel rfl rfl ?ob8 (fun u8 K hK => ?nb8)
                case ob8 =>
                  intro W hC hF
                  exact relAt_one rfl iera zera Tryz.underlying48 hiera hzera (X.era en).cells rfl hszera hzcera (show 0 < 13 by decide) (show 13 ≤ 1000 by decide) L2 hC.2.2
                case' nb8 =>
                  go_simp
                  refine hK _ ?_
                  clear hK K
                apply relWalkR_wr rfl rfl ?ob9 (fun u9 K hK => ?nb9)
                case ob9 =>
                  intro W hC hF
                  obtain ⟨⟨g1, rfl, hb1, hg1⟩, -⟩ := hF
                  refine relAtR_push rfl L iera zera 13 Tryz.underlying48 hiera hzera hszera hbyera hzcera (by decide) (.slice q7 es.length d7) es.length (flatC EraP.cells es) rfl hC.1.era g1 1 (X.era en).cells rfl hb1 rfl HO1.out HEL.out (Nat.le_of_lt hC.1.zb.lt) (fun v' w' hown hG => ?_)
                  show World.ownsRow _ _ _ _ _ _ _
                  rw [List.length_append, flatC_snoc]
                  exact hown
                case' nb9 =>
                  go_simp
                  refine hK _ ?_
                  clear hK K
                apply relWalkR_ex rfl rfl ?ob10 (fun K hK => ?nb10)
                case ob10 =>
                  intro W hC hF
                  have s1 := hC.1.zb.cell_ (i := 1) rfl
                  have hlt := hC.1.zb.lt
                  go_simp
                  all_goals first | exact ⟨Below.refl _ _, rfl⟩ | exact Below.refl _ _
                case' nb10 =>
                  go_simp
                  refine hK _ ?_
                  clear hK K
                apply relWalkR_end
                intro W hC hF hU
                obtain ⟨h9, -⟩ := hF
                have HS9 := Lib.hid (hC.1.sera h9)
                have s1 := hC.1.zb.cell_ (i := 1) rfl
                have f1 := hC.1.zb.frozen 1
                obtain ⟨q9, d9, rfl⟩ := own_form h9
                rw [show (es ++ [X.era en]).length = es.length + 1 from by simp] at HS9
                have HE9 := Lib.hid (show es ++ [X.era en] = erasM d.eras K N (t + 1) from by rw [HE.out, erasM_snoc, HXE.out, HEN.out])
                clear hU hC h9 HZ HE HN HO1 HLL hL2 HEL HXO HXE HEN he2 hen hwt
                go_wp2_with fail
                go_roundw
                case rel => exact ⟨t + 1, _, _, by omega, by go_num, by go_num, HE9, HS9⟩
                case measure => simp [intOf]; omega
            · obtain rfl : t = N := by omega
              have hd : decide ((t : Int) < (t : Int)) = false := by simp
              have hcl : cur.length ≤ 6 := by
                have h1 := congrArg List.length HI.out
                rw [zonesM_len, List.length_map, List.length_take] at h1
                omega
              have HO := Lib.hid (show wr.ownsRow w.heap.size 50 2 zv cur.length (flatC encZV cur) from HS.out.ms.sb.zone)
              obtain ⟨q7, d7, rfl⟩ := own_form HS.out.era
              obtain ⟨qz, dz, rfl⟩ := own_form HO.out
              have s1 := HS.out.ms.sb.out.cell_ (i := 1) rfl
              have z0 := HS.out.zb.cell_ (i := 0) rfl
              have z1 := HS.out.zb.cell_ (i := 1) rfl
              have hsz := HS.out.ms.bel.size
              clear hlt2 ht
              go_wp2_with (first | (at_builtin; refine wpList_append_any _ rfl (.tmp 95) (.tmp 97) 23 rfl w.heap.size 50 izone zzone 2 izone.bytes Tryz.underlying23 hizone hzzone hszzone rfl hzczone (by decide) _ _ _ rfl (HO.out.alloc _) (wr.heap.size + 1) (some ⟨wr.heap.size, 0, none⟩) 1 1 [.string ⟨nm.toArray⟩, .slice q7 es.length d7] rfl ?c0 ?c1 ?c2 ?c3 ?c4 ?_) | fail)
              case c0 => exact ⟨rfl, fun _ => ⟨_, rfl, by simp, fun j u hu => by rw [Addr.add_lit, Nat.zero_add]; exact (Blk.new' wr _ #[.string ⟨nm.toArray⟩, .slice q7 es.length d7] rfl).cell_ (by simpa using hu)⟩⟩
              case c1 => intro u hu; simp at hu; rcases hu with rfl | rfl <;> rfl
              case c2 => unfold maxLen; omega
              case c3 =>
                have : (cur.length + 1) * izone.bytes ≤ 7 * 1000 := Nat.mul_le_mul (by omega) hbyzone
                omega
              case c4 => simp; omega
              intro v2 wb hown hgrow _
              have ha : Below wr.heap.size wr (wr.alloc (.cells #[.string ⟨nm.toArray⟩, .slice q7 es.length d7] 50)) := (Below.refl _ _).alloc (Nat.le_refl _) _
              have hLw : w.heap.size ≤ L := by have := HS.out.le; omega
              have hxe := own_mono (World.ownsRow.kept (OwnR.kept_ HS.out.era ha) hgrow (own_apart (OwnR.kept_ HS.out.era ha) (OwnR.kept_ HS.out.ms.sb.zone ha) (by decide))) hLw
              have hb9 := blk_grown (HS.out.ms.sb.out.below ha HS.out.ms.sb.out.lt) hgrow (OwnR.kept_ HS.out.ms.sb.zone ha) (by decide)
              have HS9 := Lib.hid ((HS.out.ms.below ha).pzone hgrow (x := ⟨(⟨nm, es⟩, .slice q7 es.length d7), q7, d7, rfl⟩) (u := v2) (by show World.ownsRow _ _ _ _ _ _ _; rw [List.length_append, flatC_snoc]; exact hown) hxe)
              have HI9 := Lib.hid (show (cur ++ [(⟨(⟨nm, es⟩, .slice q7 es.length d7), q7, d7, rfl⟩ : ZV)]).map (fun q => q.1.1) = zonesM d.eras 0 (ns.take (k + 1)) from by
                rw [HT.out.1, List.map_append, HI.out]
                unfold zoneM
                rw [HNM.out, HN0.out, ← HE.out]
                rfl)
              have s1 := hb9.cell_ (i := 1) rfl
              have f1 := hb9.frozen 1
              obtain ⟨q9, d9, rfl⟩ := own_form hown
              clear hown hgrow ha hxe hb9 HS HI HE HO z0 z1 hcl hsz
              go_wp2_with fail
              go_roundw
              case rel => exact ⟨k + 1, _, _, by omega, by go_num, by rw [HT.out.2, HN0.out]; simp, HI9, HS9⟩
              case measure => simp [intOf]; omega
        · have hdc : decide (k < ns.length) = false := decide_eq_false hlt
          obtain rfl : k = ns.length := by omega
          rw [hdc, List.take_length]
          have HE2 := Lib.hid (show cur.map (fun q => q.1.1) = zonesM d.eras 0 ns from by rw [HI.out, List.take_length])
          clear HI hlt hk HR2 HR3 HS_z
          obtain ⟨qz, dz, rfl⟩ := own_form HS.out.sb.zone
          generalize wr = w2 at *
          go_wp2_with fail
          go_loopw [11] (fun i wr => ∃ (k : Nat) (Ls : List LinkP) (v : Value), k ≤ ls.length ∧ i = .int .i64 (k : Int) ∧ Hid (Ls = (ls.take k).map linkM) ∧ Hid (MS w #[.slice p1 d.rules.length c1, .slice p2 d.zones.length c2, .slice p3 d.eras.length c3, .slice p4 d.links.length c4, .slice p5 d.shifts.length c5] Rs cur Ls [] (.slice q1 Rs.length d1) (.slice qz cur.length dz) v (.slice none 0 0) wr)) (fun i _ => ls.length - (intOf i).toNat)
          case atStart => exact ⟨0, [], _, Nat.zero_le _, rfl, Lib.hid rfl, HS⟩
          case round =>
          clear HS
          obtain ⟨k, Ls, v, hk, rfl, HI, HS⟩ := hrel
          go_upto_region 22 with fail
          go_cut [108] from 100 to 129 (fun sc wx => sc = .bool (decide (k < ls.length)) ∧ wr = wx)
          case first =>
            have c1 := HS.out.src.cell_ (i := 3) rfl
            by_cases h1 : k < d.links.length
            · have hd1 : decide ((k : Int) < (d.links.length : Int)) = true := decide_eq_true (by omega)
              by_cases h2 : k < 6
              · have hd2 : decide ((k : Int) < 6) = true := decide_eq_true (by omega)
                have H12 := Lib.hid (And.intro h1 h2)
                go_wp2_with fail
                go_meet
                exact ⟨congrArg Value.bool (decide_eq_true ((HS_l.out.1 k).2 H12.out)).symm, rfl⟩
              · have hd2 : decide ((k : Int) < 6) = false := decide_eq_false (by omega)
                go_wp2_with fail
                go_meet
                exact ⟨congrArg Value.bool (decide_eq_false (fun h => h2 ((HS_l.out.1 k).1 h).2)).symm, rfl⟩
            · have hd1 : decide ((k : Int) < (d.links.length : Int)) = false := decide_eq_false (by omega)
              go_wp2_with fail
              go_meet
              exact ⟨congrArg Value.bool (decide_eq_false (fun h => h1 ((HS_l.out.1 k).1 h).1)).symm, rfl⟩
          case rest =>
            obtain ⟨rfl, rfl⟩ := hcut
            by_cases hlt : k < ls.length
            · skip
              have hdc : decide (k < ls.length) = true := decide_eq_true hlt
              obtain ⟨x, hx⟩ : ∃ x, ls[k]? = some x := ⟨_, List.getElem?_eq_getElem hlt⟩
              have hx0 := HS_l.out.2.2 k x hx
              have hx256 : x < 256 := HOK.out.links x (List.mem_of_getElem? hx0)
              obtain ⟨b, o, rfl, hbn, hrow⟩ := HR4.out (by intro h0; rw [h0] at hx0; simp at hx0)
              have HX := Lib.hid (show ∀ W, Below w.heap.size w W → W.cell? ⟨b, o + k, none⟩ = some (.int .u8 (x : Int)) from fun W hW => (hW.cell (p := ⟨b, o + k, none⟩) hbn).trans (by have := hrow k x hx0 0 _ rfl; simpa using this))
              have hl6 := HS_l.out.2.1
              have k0 : (0 : Int) ≤ (k : Int) := by omega
              have kl : (k : Int) < (d.links.length : Int) := by have := ((HS_l.out.1 k).1 hlt).1; omega
              have HN1 := Lib.hid (fun W => name14_any x W hx256)
              have HN2 := Lib.hid (show ∀ W, Calls Tryz.prog 51 #[.int .u8 ((x : Int) / 6)] W fun e w' => e = .returned (.string ⟨(znameM (x / 6)).toArray⟩) ∧ Below W.heap.size W w' from fun W => by have := name14_any (x / 6) W (by omega); simpa using this)
              have hq : (x : Int).tdiv 6 = (x : Int) / 6 := Int.tdiv_eq_ediv_of_nonneg (by omega)
              have hwq : IntKind.u8.wrap ((x : Int) / 6) = (x : Int) / 6 := IntWalk.u8_in _ (by omega)
              have HLl := Lib.hid (show Ls.length = k from by rw [HI.out]; simp; omega)
              have HI9 := Lib.hid (show Ls ++ [linkM x] = (ls.take (k + 1)).map linkM from by rw [HI.out, List.take_add_one, hx]; simp)
              clear hx hx0 hrow hbn
              obtain ⟨L, hL⟩ : ∃ L, wr.heap.size = L := ⟨_, rfl⟩
              have HLL := Lib.hid (show Low L v from by rw [← hL]; exact low_of HS.out.sb.link)
              obtain ⟨q4, d4, rfl⟩ := own_form HS.out.sb.link
              go_upto_region 24 with fail
              refine wp_region_relsG 19 [[], [], [], [], [], [], [], [], [], [], [], [], [], [], [], [], [], [16], []] [Form.val, Form.val, Form.val, Form.val, Form.val, Form.val, Form.val, Form.val, Form.val, Form.val, Form.val, Form.val, Form.val, Form.val, Form.val, Form.val, Form.rel (One 58 L (linkM x).cells), Form.rel (LinkO w.heap.size (Ls ++ [linkM x])), Form.val] (fun W => MS w #[.slice p1 d.rules.length c1, .slice p2 d.zones.length c2, .slice p3 d.eras.length c3, .slice (some ⟨b, o, none⟩) d.links.length c4, .slice p5 d.shifts.length c5] Rs cur Ls [] (.slice q1 Rs.length d1) (.slice qz cur.length dz) (.slice q4 Ls.length d4) (.slice none 0 0) W ∧ L ≤ W.heap.size) (GLink w.heap.size Ls (.slice q4 Ls.length d4)) 17 (by kernel_rfl) (by kernel_rfl) rfl rfl (⟨HS.out.below (Below.refl _ _).drew, by rw [← hL]; exact Nat.le_refl _⟩) GOwn.of_below (fun W W2 h => h.1.size) (fun W W2 k h => ⟨k.1.glink h, Nat.le_trans k.2 h.1.size⟩) ⟨lastsG_one HLL.out, OwnR.last _ _ _ _ _, trivial⟩ ?_
              repeat (first | apply exSpec_rel | apply exSpec_new | apply exSpec_val)
              apply relWalkR_ex rfl rfl ?ol0 (fun K hK => ?nl0)
              case ol0 =>
                intro W hC hF
                have cc3 := hC.1.src.cell_ (i := 3) rfl
                have s2 := hC.1.sb.out.cell_ (i := 2) rfl
                have e1 := HX.out W hC.1.bel
                go_simp
                all_goals first | exact ⟨Below.refl _ _, rfl⟩ | exact Below.refl _ _
              case' nl0 =>
                go_simp
                refine hK _ ?_
                clear hK K
              apply relWalkR_ex rfl rfl ?ol1 (fun K hK => ?nl1)
              case ol1 =>
                intro W hC hF
                have cc3 := hC.1.src.cell_ (i := 3) rfl
                have s2 := hC.1.sb.out.cell_ (i := 2) rfl
                have e1 := HX.out W hC.1.bel
                go_simp
                all_goals first | exact ⟨Below.refl _ _, rfl⟩ | exact Below.refl _ _
              case' nl1 =>
                go_simp
                refine hK _ ?_
                clear hK K
              apply relWalkR_ex rfl rfl ?ol2 (fun K hK => ?nl2)
              case ol2 =>
                intro W hC hF
                have cc3 := hC.1.src.cell_ (i := 3) rfl
                have s2 := hC.1.sb.out.cell_ (i := 2) rfl
                have e1 := HX.out W hC.1.bel
                go_simp
                all_goals first | exact ⟨Below.refl _ _, rfl⟩ | exact Below.refl _ _
              case' nl2 =>
                go_simp
                refine hK _ ?_
                clear hK K
              apply relWalkR_ex rfl rfl ?ol3 (fun K hK => ?nl3)
              case ol3 =>
                intro W hC hF
                have cc3 := hC.1.src.cell_ (i := 3) rfl
                have s2 := hC.1.sb.out.cell_ (i := 2) rfl
                have e1 := HX.out W hC.1.bel
                go_simp
                all_goals first | exact ⟨Below.refl _ _, rfl⟩ | exact Below.refl _ _
              case' nl3 =>
                go_simp
                refine hK _ ?_
                clear hK K
              apply relWalkR_ex rfl rfl ?ol4 (fun K hK => ?nl4)
              case ol4 =>
                intro W hC hF
                have cc3 := hC.1.src.cell_ (i := 3) rfl
                have s2 := hC.1.sb.out.cell_ (i := 2) rfl
                have e1 := HX.out W hC.1.bel
                go_simp
                all_goals first | exact ⟨Below.refl _ _, rfl⟩ | exact Below.refl _ _
              case' nl4 =>
                go_simp
                refine hK _ ?_
                clear hK K
              apply relWalkR_ex rfl rfl ?ol5 (fun K hK => ?nl5)
              case ol5 =>
                intro W hC hF
                have cc3 := hC.1.src.cell_ (i := 3) rfl
                have s2 := hC.1.sb.out.cell_ (i := 2) rfl
                have e1 := HX.out W hC.1.bel
                go_simp
                all_goals first | exact ⟨Below.refl _ _, rfl⟩ | exact Below.refl _ _
              case' nl5 =>
                go_simp
                refine hK _ ?_
                clear hK K
              apply relWalkR_ex rfl rfl ?ol6 (fun K hK => ?nl6)
              case ol6 =>
                intro W hC hF
                have cc3 := hC.1.src.cell_ (i := 3) rfl
                have s2 := hC.1.sb.out.cell_ (i := 2) rfl
                have e1 := HX.out W hC.1.bel
                go_simp
                all_goals first | exact ⟨Below.refl _ _, rfl⟩ | exact Below.refl _ _
              case' nl6 =>
                go_simp
                refine hK _ ?_
                clear hK K
              apply relWalkR_ex rfl rfl ?ol7 (fun K hK => ?nl7)
              case ol7 =>
                intro W hC hF
                go_simp
                all_goals exact (HN1.out W).mono fun e w2 ⟨he, hb⟩ => ⟨he, hb⟩
              case' nl7 =>
                go_simp
                refine hK _ ?_
                clear hK K
              apply relWalkR_ex rfl rfl ?ol8 (fun K hK => ?nl8)
              case ol8 =>
                intro W hC hF
                have cc3 := hC.1.src.cell_ (i := 3) rfl
                have s2 := hC.1.sb.out.cell_ (i := 2) rfl
                have e1 := HX.out W hC.1.bel
                go_simp
                all_goals first | exact ⟨Below.refl _ _, rfl⟩ | exact Below.refl _ _
              case' nl8 =>
                go_simp
                refine hK _ ?_
                clear hK K
              apply relWalkR_ex rfl rfl ?ol9 (fun K hK => ?nl9)
              case ol9 =>
                intro W hC hF
                have cc3 := hC.1.src.cell_ (i := 3) rfl
                have s2 := hC.1.sb.out.cell_ (i := 2) rfl
                have e1 := HX.out W hC.1.bel
                go_simp
                all_goals first | exact ⟨Below.refl _ _, rfl⟩ | exact Below.refl _ _
              case' nl9 =>
                go_simp
                refine hK _ ?_
                clear hK K
              apply relWalkR_ex rfl rfl ?ol10 (fun K hK => ?nl10)
              case ol10 =>
                intro W hC hF
                have cc3 := hC.1.src.cell_ (i := 3) rfl
                have s2 := hC.1.sb.out.cell_ (i := 2) rfl
                have e1 := HX.out W hC.1.bel
                go_simp
                all_goals first | exact ⟨Below.refl _ _, rfl⟩ | exact Below.refl _ _
              case' nl10 =>
                go_simp
                refine hK _ ?_
                clear hK K
              apply relWalkR_ex rfl rfl ?ol11 (fun K hK => ?nl11)
              case ol11 =>
                intro W hC hF
                have cc3 := hC.1.src.cell_ (i := 3) rfl
                have s2 := hC.1.sb.out.cell_ (i := 2) rfl
                have e1 := HX.out W hC.1.bel
                go_simp
                all_goals first | exact ⟨Below.refl _ _, rfl⟩ | exact Below.refl _ _
              case' nl11 =>
                go_simp
                refine hK _ ?_
                clear hK K
              apply relWalkR_ex rfl rfl ?ol12 (fun K hK => ?nl12)
              case ol12 =>
                intro W hC hF
                have cc3 := hC.1.src.cell_ (i := 3) rfl
                have s2 := hC.1.sb.out.cell_ (i := 2) rfl
                have e1 := HX.out W hC.1.bel
                go_simp
                all_goals first | exact ⟨Below.refl _ _, rfl⟩ | exact Below.refl _ _
              case' nl12 =>
                go_simp
                refine hK _ ?_
                clear hK K
              apply relWalkR_ex rfl rfl ?ol13 (fun K hK => ?nl13)
              case ol13 =>
                intro W hC hF
                have cc3 := hC.1.src.cell_ (i := 3) rfl
                have s2 := hC.1.sb.out.cell_ (i := 2) rfl
                have e1 := HX.out W hC.1.bel
                go_simp
                all_goals first | exact ⟨Below.refl _ _, rfl⟩ | exact Below.refl _ _
              case' nl13 =>
                go_simp
                refine hK _ ?_
                clear hK K
              apply relWalkR_ex rfl rfl ?ol14 (fun K hK => ?nl14)
              case ol14 =>
                intro W hC hF
                go_simp
                all_goals exact (HN2.out W).mono fun e w2 ⟨he, hb⟩ => ⟨he, hb⟩
              case' nl14 =>
                go_simp
                refine hK _ ?_
                clear hK K
              apply relWalkR_ex rfl rfl ?ol15 (fun K hK => ?nl15)
              case ol15 =>
                intro W hC hF
                have cc3 := hC.1.src.cell_ (i := 3) rfl
                have s2 := hC.1.sb.out.cell_ (i := 2) rfl
                have e1 := HX.out W hC.1.bel
                go_simp
                all_goals first | exact ⟨Below.refl _ _, rfl⟩ | exact Below.refl _ _
              case' nl15 =>
                go_simp
                refine hK _ ?_
                clear hK K
              apply relWalkR_rel rfl rfl ?ol16 (fun u16 K hK => ?nl16)
              case ol16 =>
                intro W hC hF
                exact relAt_one rfl ilink zlink Tryz.underlying24 hilink hzlink (linkM x).cells rfl hszlink hzclink (show 0 < 2 by decide) (show 2 ≤ 1000 by decide) L hC.2
              case' nl16 =>
                go_simp
                refine hK _ ?_
                clear hK K
              apply relWalkR_wr rfl rfl ?ol17 (fun u17 K hK => ?nl17)
              case ol17 =>
                intro W hC hF
                obtain ⟨⟨g1, rfl, hb1, hg1⟩, -⟩ := hF
                refine relAtR_push rfl w.heap.size ilink zlink 2 Tryz.underlying24 hilink hzlink hszlink hbylink hzclink (by decide) (.slice q4 Ls.length d4) Ls.length (flatC LinkP.cells Ls) rfl hC.1.sb.link g1 1 (linkM x).cells rfl hb1 rfl (by simp [linkM, LinkP.cells, Value.oneCell']) (by have := HLl.out; omega) hC.1.bel.size (fun v' w' hown hG => ?_)
                show World.ownsRow _ _ _ _ _ _ _
                rw [List.length_append, flatC_snoc]
                exact hown
              case' nl17 =>
                go_simp
                refine hK _ ?_
                clear hK K
              apply relWalkR_ex rfl rfl ?ol18 (fun K hK => ?nl18)
              case ol18 =>
                intro W hC hF
                have cc3 := hC.1.src.cell_ (i := 3) rfl
                have s2 := hC.1.sb.out.cell_ (i := 2) rfl
                have e1 := HX.out W hC.1.bel
                go_simp
                all_goals first | exact ⟨Below.refl _ _, rfl⟩ | exact Below.refl _ _
              case' nl18 =>
                go_simp
                refine hK _ ?_
                clear hK K
              apply relWalkR_end
              intro W hC hF hU
              obtain ⟨h9, -⟩ := hF
              have HS9 := Lib.hid (hC.1.slink h9)
              have s2 := hC.1.sb.out.cell_ (i := 2) rfl
              have f2 := hC.1.sb.out.frozen 2
              obtain ⟨q9, d9, rfl⟩ := own_form h9
              rw [show (Ls ++ [linkM x]).length = Ls.length + 1 from by simp] at HS9
              clear hU hC h9 HS HI HX HN1 HN2 HLL hL HLl hq hwq
              go_wp2_with fail
              go_roundw
              case rel => exact ⟨k + 1, _, _, by omega, by go_num, HI9, HS9⟩
              case measure => simp [intOf]; omega
            · have hdc : decide (k < ls.length) = false := decide_eq_false hlt
              obtain rfl : k = ls.length := by omega
              rw [hdc]
              have HE3 := Lib.hid (show Ls = ls.map linkM from by rw [HI.out, List.take_length])
              clear HI hlt hk HR4 HS_l
              obtain ⟨q4, d4, rfl⟩ := own_form HS.out.sb.link
              generalize wr = w3 at *
              go_wp2_with fail
              go_loopw [12] (fun i wr => ∃ (k : Nat) (Ss : List (List UInt8)) (v : Value), k ≤ hs.length ∧ i = .int .i64 (k : Int) ∧ Hid (Ss = (hs.take k).map nameM) ∧ Hid (MS w #[.slice p1 d.rules.length c1, .slice p2 d.zones.length c2, .slice p3 d.eras.length c3, .slice p4 d.links.length c4, .slice p5 d.shifts.length c5] Rs cur Ls Ss (.slice q1 Rs.length d1) (.slice qz cur.length dz) (.slice q4 Ls.length d4) v wr)) (fun i _ => hs.length - (intOf i).toNat)
              case atStart => exact ⟨0, [], _, Nat.zero_le _, rfl, Lib.hid rfl, HS⟩
              case round =>
              clear HS
              obtain ⟨k, Ss, v, hk, rfl, HI, HS⟩ := hrel
              go_upto_region 26 with fail
              go_cut [138] from 130 to 154 (fun sc wx => sc = .bool (decide (k < hs.length)) ∧ wr = wx)
              case first =>
                have c1 := HS.out.src.cell_ (i := 4) rfl
                by_cases h1 : k < d.shifts.length
                · have hd1 : decide ((k : Int) < (d.shifts.length : Int)) = true := decide_eq_true (by omega)
                  by_cases h2 : k < 6
                  · have hd2 : decide ((k : Int) < 6) = true := decide_eq_true (by omega)
                    have H12 := Lib.hid (And.intro h1 h2)
                    go_wp2_with fail
                    go_meet
                    exact ⟨congrArg Value.bool (decide_eq_true ((HS_h.out.1 k).2 H12.out)).symm, rfl⟩
                  · have hd2 : decide ((k : Int) < 6) = false := decide_eq_false (by omega)
                    go_wp2_with fail
                    go_meet
                    exact ⟨congrArg Value.bool (decide_eq_false (fun h => h2 ((HS_h.out.1 k).1 h).2)).symm, rfl⟩
                · have hd1 : decide ((k : Int) < (d.shifts.length : Int)) = false := decide_eq_false (by omega)
                  go_wp2_with fail
                  go_meet
                  exact ⟨congrArg Value.bool (decide_eq_false (fun h => h1 ((HS_h.out.1 k).1 h).1)).symm, rfl⟩
              case rest =>
                obtain ⟨rfl, rfl⟩ := hcut
                by_cases hlt : k < hs.length
                · skip
                  have hdc : decide (k < hs.length) = true := decide_eq_true hlt
                  obtain ⟨x, hx⟩ : ∃ x, hs[k]? = some x := ⟨_, List.getElem?_eq_getElem hlt⟩
                  have hx0 := HS_h.out.2.2 k x hx
                  have hx256 : x < 256 := HOK.out.shifts x (List.mem_of_getElem? hx0)
                  obtain ⟨b, o, rfl, hbn, hrow⟩ := HR5.out (by intro h0; rw [h0] at hx0; simp at hx0)
                  have HX := Lib.hid (show ∀ W, Below w.heap.size w W → W.cell? ⟨b, o + k, none⟩ = some (.int .u8 (x : Int)) from fun W hW => (hW.cell (p := ⟨b, o + k, none⟩) hbn).trans (by have := hrow k x hx0 0 _ rfl; simpa using this))
                  have hl6 := HS_h.out.2.1
                  have k0 : (0 : Int) ≤ (k : Int) := by omega
                  have kl : (k : Int) < (d.shifts.length : Int) := by have := ((HS_h.out.1 k).1 hlt).1; omega
                  obtain ⟨j, hj⟩ : ∃ j, x % 4 = j := ⟨_, rfl⟩
                  have hj4 : j < 4 := by omega
                  have Hc2 := Lib.hid (show ∀ W g, Blk W g 9 #[.string ⟨#[82]⟩, .string ⟨#[69, 105, 114, 101]⟩, .string ⟨#[69, 85]⟩, .string ⟨#[67, 45, 69, 117, 114]⟩] → W.cell? ⟨g, j, none⟩ = some (.string ⟨(nameM x).toArray⟩) from fun W g h => h.cell_ (by
                    rw [nameM, hj]
                    rcases (by omega : j = 0 ∨ j = 1 ∨ j = 2 ∨ j = 3) with h | h | h | h <;> subst h <;> rfl))
                  have hjA : (0 : Int) ≤ (j : Int) := by omega
                  have hjB : (j : Int) < 4 := by omega
                  have hjI : (x : Int).tmod 4 = (j : Int) := by rw [Int.tmod_eq_emod_of_nonneg (by omega)]; omega
                  have HSl := Lib.hid (show Ss.length = k from by rw [HI.out]; simp; omega)
                  have HI9 := Lib.hid (show Ss ++ [nameM x] = (hs.take (k + 1)).map nameM from by rw [HI.out, List.take_add_one, hx]; simp)
                  clear hx hx0 hrow hbn hj hj4
                  obtain ⟨L, hL⟩ : ∃ L, wr.heap.size = L := ⟨_, rfl⟩
                  have HLL := Lib.hid (show Low L v from by rw [← hL]; exact low_of HS.out.sb.str)
                  obtain ⟨q5, d5, rfl⟩ := own_form HS.out.sb.str
                  go_upto_region 28 with fail
                  refine wp_region_relsG 14 [[], [], [], [], [], [], [], [], [], [2], [9], [], [11], []] [Form.val, Form.val, Form.rel (TabL L #[.string ⟨#[82]⟩, .string ⟨#[69, 105, 114, 101]⟩, .string ⟨#[69, 85]⟩, .string ⟨#[67, 45, 69, 117, 114]⟩]), Form.val, Form.val, Form.val, Form.val, Form.val, Form.val, Form.rel (PtrL L j #[.string ⟨#[82]⟩, .string ⟨#[69, 105, 114, 101]⟩, .string ⟨#[69, 85]⟩, .string ⟨#[67, 45, 69, 117, 114]⟩]), Form.val, Form.rel (One 9 L (encS (nameM x))), Form.rel (StrO w.heap.size (Ss ++ [nameM x])), Form.val] (fun W => MS w #[.slice p1 d.rules.length c1, .slice p2 d.zones.length c2, .slice p3 d.eras.length c3, .slice p4 d.links.length c4, .slice (some ⟨b, o, none⟩) d.shifts.length c5] Rs cur Ls Ss (.slice q1 Rs.length d1) (.slice qz cur.length dz) (.slice q4 Ls.length d4) (.slice q5 Ss.length d5) W ∧ L ≤ W.heap.size) (GStr w.heap.size Ss (.slice q5 Ss.length d5)) 12 (by kernel_rfl) (by kernel_rfl) rfl rfl (⟨HS.out.below (Below.refl _ _).drew, by rw [← hL]; exact Nat.le_refl _⟩) GOwn.of_below (fun W W2 h => h.1.size) (fun W W2 k h => ⟨k.1.gstr h, Nat.le_trans k.2 h.1.size⟩) ⟨lastsG_tab HLL.out, lastsG_ptr HLL.out, lastsG_one HLL.out, OwnR.last _ _ _ _ _, trivial⟩ ?_
                  repeat (first | apply exSpec_rel | apply exSpec_new | apply exSpec_val)
                  apply relWalkR_ex rfl rfl ?os0 (fun K hK => ?ns0)
                  case os0 =>
                    intro W hC hF
                    have cc4 := hC.1.src.cell_ (i := 4) rfl
                    have s3 := hC.1.sb.out.cell_ (i := 3) rfl
                    have e1 := HX.out W hC.1.bel
                    go_simp
                    all_goals first | exact ⟨Below.refl _ _, rfl⟩ | exact Below.refl _ _
                  case' ns0 =>
                    go_simp
                    refine hK _ ?_
                    clear hK K
                  apply relWalkR_ex rfl rfl ?os1 (fun K hK => ?ns1)
                  case os1 =>
                    intro W hC hF
                    have cc4 := hC.1.src.cell_ (i := 4) rfl
                    have s3 := hC.1.sb.out.cell_ (i := 3) rfl
                    have e1 := HX.out W hC.1.bel
                    go_simp
                    all_goals first | exact ⟨Below.refl _ _, rfl⟩ | exact Below.refl _ _
                  case' ns1 =>
                    go_simp
                    refine hK _ ?_
                    clear hK K
                  apply relWalkR_rel rfl rfl ?os2 (fun u2 K hK => ?ns2)
                  case os2 =>
                    intro W hC hF
                    go_simp
                    exact ⟨(Below.refl _ _).alloc (Nat.le_refl _) _, _, rfl, Blk.new' _ _ _ rfl, hC.2⟩
                  case' ns2 =>
                    go_simp
                    refine hK _ ?_
                    clear hK K
                  apply relWalkR_ex rfl rfl ?os3 (fun K hK => ?ns3)
                  case os3 =>
                    intro W hC hF
                    have cc4 := hC.1.src.cell_ (i := 4) rfl
                    have s3 := hC.1.sb.out.cell_ (i := 3) rfl
                    have e1 := HX.out W hC.1.bel
                    go_simp
                    all_goals first | exact ⟨Below.refl _ _, rfl⟩ | exact Below.refl _ _
                  case' ns3 =>
                    go_simp
                    refine hK _ ?_
                    clear hK K
                  apply relWalkR_ex rfl rfl ?os4 (fun K hK => ?ns4)
                  case os4 =>
                    intro W hC hF
                    have cc4 := hC.1.src.cell_ (i := 4) rfl
                    have s3 := hC.1.sb.out.cell_ (i := 3) rfl
                    have e1 := HX.out W hC.1.bel
                    go_simp
                    all_goals first | exact ⟨Below.refl _ _, rfl⟩ | exact Below.refl _ _
                  case' ns4 =>
                    go_simp
                    refine hK _ ?_
                    clear hK K
                  apply relWalkR_ex rfl rfl ?os5 (fun K hK => ?ns5)
                  case os5 =>
                    intro W hC hF
                    have cc4 := hC.1.src.cell_ (i := 4) rfl
                    have s3 := hC.1.sb.out.cell_ (i := 3) rfl
                    have e1 := HX.out W hC.1.bel
                    go_simp
                    all_goals first | exact ⟨Below.refl _ _, rfl⟩ | exact Below.refl _ _
                  case' ns5 =>
                    go_simp
                    refine hK _ ?_
                    clear hK K
                  apply relWalkR_ex rfl rfl ?os6 (fun K hK => ?ns6)
                  case os6 =>
                    intro W hC hF
                    have cc4 := hC.1.src.cell_ (i := 4) rfl
                    have s3 := hC.1.sb.out.cell_ (i := 3) rfl
                    have e1 := HX.out W hC.1.bel
                    go_simp
                    all_goals first | exact ⟨Below.refl _ _, rfl⟩ | exact Below.refl _ _
                  case' ns6 =>
                    go_simp
                    refine hK _ ?_
                    clear hK K
                  apply relWalkR_ex rfl rfl ?os7 (fun K hK => ?ns7)
                  case os7 =>
                    intro W hC hF
                    have cc4 := hC.1.src.cell_ (i := 4) rfl
                    have s3 := hC.1.sb.out.cell_ (i := 3) rfl
                    have e1 := HX.out W hC.1.bel
                    go_simp
                    all_goals first | exact ⟨Below.refl _ _, rfl⟩ | exact Below.refl _ _
                  case' ns7 =>
                    go_simp
                    refine hK _ ?_
                    clear hK K
                  apply relWalkR_ex rfl rfl ?os8 (fun K hK => ?ns8)
                  case os8 =>
                    intro W hC hF
                    have cc4 := hC.1.src.cell_ (i := 4) rfl
                    have s3 := hC.1.sb.out.cell_ (i := 3) rfl
                    have e1 := HX.out W hC.1.bel
                    go_simp
                    all_goals first | exact ⟨Below.refl _ _, rfl⟩ | exact Below.refl _ _
                  case' ns8 =>
                    go_simp
                    refine hK _ ?_
                    clear hK K
                  apply relWalkR_rel rfl rfl ?os9 (fun u9 K hK => ?ns9)
                  case os9 =>
                    intro W hC hF
                    obtain ⟨⟨g, rfl, hB, hg⟩, -⟩ := hF
                    go_simp
                    exact ⟨Below.refl _ _, g, rfl, hB, hg⟩
                  case' ns9 =>
                    go_simp
                    refine hK _ ?_
                    clear hK K
                  apply relWalkR_ex rfl rfl ?os10 (fun K hK => ?ns10)
                  case os10 =>
                    intro W hC hF
                    obtain ⟨⟨g, rfl, hB, hg⟩, -⟩ := hF
                    have hx := Hc2.out W g hB
                    go_simp
                    all_goals first | exact ⟨Below.refl _ _, rfl⟩ | exact Below.refl _ _
                  case' ns10 =>
                    go_simp
                    refine hK _ ?_
                    clear hK K
                  apply relWalkR_rel rfl rfl ?os11 (fun u11 K hK => ?ns11)
                  case os11 =>
                    intro W hC hF
                    go_simp
                    exact ⟨(Below.refl _ _).alloc (Nat.le_refl _) _, _, rfl, Blk.new' _ _ _ rfl, hC.2⟩
                  case' ns11 =>
                    go_simp
                    refine hK _ ?_
                    clear hK K
                  apply relWalkR_wr rfl rfl ?os12 (fun u12 K hK => ?ns12)
                  case os12 =>
                    intro W hC hF
                    obtain ⟨⟨g1, rfl, hb1, hg1⟩, -⟩ := hF
                    refine relAtR_push rfl w.heap.size istr zstr 1 Tryz.underlying25 histr hzstr hszstr hbystr hzcstr (by decide) (.slice q5 Ss.length d5) Ss.length (flatC encS Ss) rfl hC.1.sb.str g1 1 (encS (nameM x)) rfl hb1 rfl (by simp [encS, Value.oneCell']) (by have := HSl.out; omega) hC.1.bel.size (fun v' w' hown hG => ?_)
                    show World.ownsRow _ _ _ _ _ _ _
                    rw [List.length_append, flatC_snoc]
                    exact hown
                  case' ns12 =>
                    go_simp
                    refine hK _ ?_
                    clear hK K
                  apply relWalkR_ex rfl rfl ?os13 (fun K hK => ?ns13)
                  case os13 =>
                    intro W hC hF
                    have cc4 := hC.1.src.cell_ (i := 4) rfl
                    have s3 := hC.1.sb.out.cell_ (i := 3) rfl
                    have e1 := HX.out W hC.1.bel
                    go_simp
                    all_goals first | exact ⟨Below.refl _ _, rfl⟩ | exact Below.refl _ _
                  case' ns13 =>
                    go_simp
                    refine hK _ ?_
                    clear hK K
                  apply relWalkR_end
                  intro W hC hF hU
                  obtain ⟨h9, -⟩ := hF
                  have HS9 := Lib.hid (hC.1.sstr h9)
                  have s3 := hC.1.sb.out.cell_ (i := 3) rfl
                  have f3 := hC.1.sb.out.frozen 3
                  obtain ⟨q9, d9, rfl⟩ := own_form h9
                  rw [show (Ss ++ [nameM x]).length = Ss.length + 1 from by simp] at HS9
                  clear hU hC h9 HS HI HX Hc2 HLL hL HSl hjA hjB hjI
                  go_wp2_with fail
                  go_roundw
                  case rel => exact ⟨k + 1, _, _, by omega, by go_num, HI9, HS9⟩
                  case measure => simp [intOf]; omega
                · have hdc : decide (k < hs.length) = false := decide_eq_false hlt
                  obtain rfl : k = hs.length := by omega
                  rw [hdc]
                  have HE4 := Lib.hid (show Ss = hs.map nameM from by rw [HI.out, List.take_length])
                  clear HI hlt hk HR5 HS_h
                  obtain ⟨q5, d5, rfl⟩ := own_form HS.out.sb.str
                  have s0 := HS.out.sb.out.cell_ (i := 0) rfl
                  have t0 := HS.out.res.cell_ (i := 0) rfl
                  have f0 := HS.out.res.frozen 0
                  have s1 := HS.out.sb.out.cell_ (i := 1) rfl
                  have t1 := HS.out.res.cell_ (i := 1) rfl
                  have f1 := HS.out.res.frozen 1
                  have s2 := HS.out.sb.out.cell_ (i := 2) rfl
                  have t2 := HS.out.res.cell_ (i := 2) rfl
                  have f2 := HS.out.res.frozen 2
                  have s3 := HS.out.sb.out.cell_ (i := 3) rfl
                  have t3 := HS.out.res.cell_ (i := 3) rfl
                  have f3 := HS.out.res.frozen 3
                  go_wp2_with fail
                  have hT : 47 ≠ 27 ∧ 50 ≠ 27 ∧ 58 ≠ 27 ∧ 9 ≠ 27 ∧ 55 ≠ 27 := by decide
                  have hg : w.heap.size + 1 + 1 ≠ w.heap.size + 1 := by omega
                  have r0 := HS.out.res
                  have r1 := r0.set_ 0 (.slice q1 Rs.length d1)
                  have r2 := r1.set_ 1 (.slice qz cur.length dz)
                  have r3 := r2.set_ 2 (.slice q4 Ls.length d4)
                  have bF := r3.set_ 3 (.slice q5 Ss.length d5)
                  have sF := ((((HS.out.sb.far r0 hT hg (j := 0) (.slice q1 Rs.length d1)).far r1 hT hg (j := 1) (.slice qz cur.length dz)).far r2 hT hg (j := 2) (.slice q4 Ls.length d4)).far r3 hT hg (j := 3) (.slice q5 Ss.length d5)).so
                  have hge1 : w.heap.size ≤ w.heap.size + 1 := by omega
                  refine bodyPost_ret (results_cell_row rfl _ _ (w.heap.size + 1) 27 #[.slice q1 Rs.length d1, .slice qz cur.length dz, .slice q4 Ls.length d4, .slice q5 Ss.length d5] (0, 0) _ rfl bF Tryz.underlying27 rfl (by kernel_rfl)) rfl ⟨⟨_, _, _, _, cur, rfl, by rw [HSM.out]; exact HE2.out, ?_⟩, (((HS.out.bel.setCell hge1 _).setCell hge1 _).setCell hge1 _).setCell hge1 _⟩
                  rw [HSM.out]
                  simp only
                  rw [← HE1.out, ← HE3.out, ← HE4.out]
                  exact sF
end Go.Proofs.YtmcgbjjcpcgcfaaGreatDoor
