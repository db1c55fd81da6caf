/-
  PrinterRefuses of the law of layer 14: what the call returns.
-/
import Derived.Test.YtmcgbjjcpcgcfaaGreatDoorCopyOwn
import Derived.Deep.CutBlock
set_option linter.unusedVariables false
set_option linter.unusedSimpArgs false
namespace Go.Proofs.YtmcgbjjcpcgcfaaGreatDoor
open Go.RowKit Go.Shelf

def eraG (f : List UInt8) : EraP := ⟨0, 0, 0, [], f, UntilP.none⟩
def endM : EraP := ⟨0, 0, 0, [], [71, 77, 84], ⟨true, 1850, 1, (1, 0, 1), (0, 0)⟩⟩
theorem end_made : DraftE.zero.era true = endM := by decide
theorem zero_ok : DraftE.zero.Ok := ⟨by decide, by decide, by decide, by decide, by decide, by decide, by decide, by decide, by decide, by decide, by decide, by decide⟩
theorem SB.of_so {B g : Nat} {rs : List RuleP} {cur : List ZV} {ls : List LinkP} {ss : List (List UInt8)} {v1 zv v3 v4 : Value} {W : World} (h : SO B rs cur ls ss v1 zv v3 v4 W) (hb : Blk W g 27 #[v1, zv, v3, v4]) : SB B g rs cur ls ss v1 zv v3 v4 W := ⟨hb, h.rule, h.zone, h.link, h.str, h.eras⟩
theorem SB.prule {B g : Nat} {rs : List RuleP} {cur : List ZV} {ls : List LinkP} {ss : List (List UInt8)} {v1 zv v3 v4 : Value} {W W' : World} (h : SB B g rs cur ls ss v1 zv v3 v4 W) (hg : W.grownBy W' v1.ownBlock) {x : RuleP} {u : Value} (hu : RuleO B (rs ++ [x]) u W') : SB B g (rs ++ [x]) cur ls ss u zv v3 v4 (W'.setCell ⟨g, 0, none⟩ u) := by
  have hout := blk_grown h.out hg h.rule (by decide)
  exact ⟨hout.set_ 0 u, own_farT hu hout (by decide) _, own_farT (h.zone.kept hg (own_apart h.zone h.rule (by decide))) hout (by decide) _, own_farT (h.link.kept hg (own_apart h.link h.rule (by decide))) hout (by decide) _, own_farT (h.str.kept hg (own_apart h.str h.rule (by decide))) hout (by decide) _, fun q hq => own_farT ((h.eras q hq).kept hg (own_apart (h.eras q hq) h.rule (by decide))) hout (by decide) _⟩
theorem SB.plink {B g : Nat} {rs : List RuleP} {cur : List ZV} {ls : List LinkP} {ss : List (List UInt8)} {v1 zv v3 v4 : Value} {W W' : World} (h : SB B g rs cur ls ss v1 zv v3 v4 W) (hg : W.grownBy W' v3.ownBlock) {x : LinkP} {u : Value} (hu : LinkO B (ls ++ [x]) u W') : SB B g rs cur (ls ++ [x]) ss v1 zv u v4 (W'.setCell ⟨g, 2, none⟩ u) := by
  have hout := blk_grown h.out hg h.link (by decide)
  exact ⟨hout.set_ 2 u, own_farT (h.rule.kept hg (own_apart h.rule h.link (by decide))) hout (by decide) _, own_farT (h.zone.kept hg (own_apart h.zone h.link (by decide))) hout (by decide) _, own_farT hu hout (by decide) _, own_farT (h.str.kept hg (own_apart h.str h.link (by decide))) hout (by decide) _, fun q hq => own_farT ((h.eras q hq).kept hg (own_apart (h.eras q hq) h.link (by decide))) hout (by decide) _⟩
theorem SB.pstr {B g : Nat} {rs : List RuleP} {cur : List ZV} {ls : List LinkP} {ss : List (List UInt8)} {v1 zv v3 v4 : Value} {W W' : World} (h : SB B g rs cur ls ss v1 zv v3 v4 W) (hg : W.grownBy W' v4.ownBlock) {x : List UInt8} {u : Value} (hu : StrO B (ss ++ [x]) u W') : SB B g rs cur ls (ss ++ [x]) v1 zv v3 u (W'.setCell ⟨g, 3, none⟩ u) := by
  have hout := blk_grown h.out hg h.str (by decide)
  exact ⟨hout.set_ 3 u, own_farT (h.rule.kept hg (own_apart h.rule h.str (by decide))) hout (by decide) _, own_farT (h.zone.kept hg (own_apart h.zone h.str (by decide))) hout (by decide) _, own_farT (h.link.kept hg (own_apart h.link h.str (by decide))) hout (by decide) _, own_farT hu hout (by decide) _, fun q hq => own_farT ((h.eras q hq).kept hg (own_apart (h.eras q hq) h.str (by decide))) hout (by decide) _⟩
/-- what the law holds: the draft, the source that is made, the two eras -/
structure RS (w : World) (gs ge gd : Nat) (f : List UInt8) (rs : List RuleP) (cur : List ZV) (ls : List LinkP) (ss : List (List UInt8)) (v1 zv v3 v4 : Value) (W : World) : Prop where
  sb : SB w.heap.size gs rs cur ls ss v1 zv v3 v4 W
  era : Blk W ge 55 (eraG f).cells
  en : Blk W gd 55 endM.cells
  bel : Below w.heap.size w W
  gsl : w.heap.size ≤ gs
  gel : w.heap.size ≤ ge
  lowe : ∀ q ∈ cur, Low ge q.1.2
  ne1 : gs < ge
  ne2 : ge < gd
theorem RS.below {w W W' : World} {gs ge gd : Nat} {f : List UInt8} {rs : List RuleP} {cur : List ZV} {ls : List LinkP} {ss : List (List UInt8)} {v1 zv v3 v4 : Value} (h : RS w gs ge gd f rs cur ls ss v1 zv v3 v4 W) (hb : Below W.heap.size W W') : RS w gs ge gd f rs cur ls ss v1 zv v3 v4 W' := ⟨h.sb.below hb, h.era.below hb h.era.lt, h.en.below hb h.en.lt, h.bel.trans (hb.mono h.bel.size), h.gsl, h.gel, h.lowe, h.ne1, h.ne2⟩
theorem RS.fmt {w W : World} {gs ge gd : Nat} {f : List UInt8} {rs : List RuleP} {cur : List ZV} {ls : List LinkP} {ss : List (List UInt8)} {v1 zv v3 v4 : Value} (h : RS w gs ge gd f rs cur ls ss v1 zv v3 v4 W) (f' : List UInt8) : RS w gs ge gd f' rs cur ls ss v1 zv v3 v4 (W.setCell ⟨ge, 4, none⟩ (.string ⟨f'.toArray⟩)) := by
  have h1 := h.ne1
  have h2 := h.ne2
  exact ⟨⟨h.sb.out.far (by show gs ≠ ge; omega) _, own_farT h.sb.rule h.era (by decide) _, own_farT h.sb.zone h.era (by decide) _, own_farT h.sb.link h.era (by decide) _, own_farT h.sb.str h.era (by decide) _, fun q hq => own_farL (h.sb.eras q hq) (h.lowe q hq) (Nat.le_refl _) _⟩, h.era.set_ 4 _, h.en.far (by show gd ≠ ge; omega) _, h.bel.setCell h.gel _, h.gsl, h.gel, h.lowe, h.ne1, h.ne2⟩
/-- a source that is refused, in block gs -/
def BadS (w : World) (gs : Nat) (W : World) : Prop := ∃ s v1 zv v3 v4 zs, Blk W gs 27 #[v1, zv, v3, v4] ∧ SrcIs W W.heap.size v1 zv v3 v4 zs s ∧ Below w.heap.size w W ∧ srcPrintR s = ([], 2) ∧ SrcSz s ∧ SrcLn s

theorem bad_any {s : SourceP} (h1 : s.rules.length ≤ 40) (h2 : s.zones.length ≤ 40) (h3 : s.links.length ≤ 40) (h4 : s.shifts.length ≤ 40) (h5 : ∀ z ∈ s.zones, z.eras.length ≤ 40) (hz : SrcSz s) (hno : srcOk s = false) : srcPrintR s = ([], 2) ∧ SrcSz s ∧ SrcLn s := by
  have hs : Small s := ⟨h1, h2, h3, h4, h5⟩
  refine ⟨?_, hz, hs.ln⟩
  unfold srcPrintR
  rw [hs.few, hno]
  rfl
theorem mem_snoc {α : Type} {p : α → Prop} {l : List α} {x : α} (h : ∀ y ∈ l, p y) (hx : p x) : ∀ y ∈ l ++ [x], p y := fun y hy => by
  rcases List.mem_append.1 hy with hy | hy
  · exact h y hy
  · rw [List.mem_singleton] at hy; subst hy; exact hx
theorem all_snoc_no {α : Type} {p : α → Bool} (l : List α) {x : α} (hx : p x = false) : (l ++ [x]).all p = false := by rw [List.all_append]; simp [hx]
theorem bad_rule (d : DraftP) {x : RuleP} (hx : ruleOk x = false) (hz : x.name.length ≤ 1048576 ∧ x.lett.length ≤ 1048576) : srcPrintR ⟨(srcM d).rules ++ [x], (srcM d).zones, (srcM d).links, (srcM d).shifts⟩ = ([], 2) ∧ SrcSz ⟨(srcM d).rules ++ [x], (srcM d).zones, (srcM d).links, (srcM d).shifts⟩ ∧ SrcLn ⟨(srcM d).rules ++ [x], (srcM d).zones, (srcM d).links, (srcM d).shifts⟩ := by
  obtain ⟨h1, h2, h3, h4, h5⟩ := srcM_small d
  have hs := (srcM_right d).sz
  refine bad_any (by simp; omega) (by simp; omega) (by simp; omega) (by simp; omega) (fun z hz => by have := h5 z hz; omega) ⟨mem_snoc hs.rules hz, hs.zones, hs.links, hs.shifts⟩ ?_
  unfold srcOk
  rw [all_snoc_no _ hx]
  rfl
theorem bad_zone (d : DraftP) {x : ZoneP} (hx : zoneOk x = false) (hz : ZoneSz x) (he : x.eras.length ≤ 4) : srcPrintR ⟨(srcM d).rules, (srcM d).zones ++ [x], (srcM d).links, (srcM d).shifts⟩ = ([], 2) ∧ SrcSz ⟨(srcM d).rules, (srcM d).zones ++ [x], (srcM d).links, (srcM d).shifts⟩ ∧ SrcLn ⟨(srcM d).rules, (srcM d).zones ++ [x], (srcM d).links, (srcM d).shifts⟩ := by
  obtain ⟨h1, h2, h3, h4, h5⟩ := srcM_small d
  have hs := (srcM_right d).sz
  refine bad_any (by simp; omega) (by simp; omega) (by simp; omega) (by simp; omega) (mem_snoc (fun z hz => by have := h5 z hz; omega) (by omega)) ⟨hs.rules, mem_snoc hs.zones hz, hs.links, hs.shifts⟩ ?_
  unfold srcOk
  rw [all_snoc_no _ hx, Bool.and_false]
  rfl
theorem bad_link (d : DraftP) {x : LinkP} (hx : linkOk x = false) (hz : x.target.length ≤ 1048576 ∧ x.name.length ≤ 1048576) : srcPrintR ⟨(srcM d).rules, (srcM d).zones, (srcM d).links ++ [x], (srcM d).shifts⟩ = ([], 2) ∧ SrcSz ⟨(srcM d).rules, (srcM d).zones, (srcM d).links ++ [x], (srcM d).shifts⟩ ∧ SrcLn ⟨(srcM d).rules, (srcM d).zones, (srcM d).links ++ [x], (srcM d).shifts⟩ := by
  obtain ⟨h1, h2, h3, h4, h5⟩ := srcM_small d
  have hs := (srcM_right d).sz
  refine bad_any (by simp; omega) (by simp; omega) (by simp; omega) (by simp; omega) (fun z hz => by have := h5 z hz; omega) ⟨hs.rules, hs.zones, mem_snoc hs.links hz, hs.shifts⟩ ?_
  unfold srcOk
  rw [all_snoc_no _ hx, Bool.and_false]
  rfl
theorem bad_shift (d : DraftP) {x : List UInt8} (hx : setB x = false) (hz : x.length ≤ 1048576) : srcPrintR ⟨(srcM d).rules, (srcM d).zones, (srcM d).links, (srcM d).shifts ++ [x]⟩ = ([], 2) ∧ SrcSz ⟨(srcM d).rules, (srcM d).zones, (srcM d).links, (srcM d).shifts ++ [x]⟩ ∧ SrcLn ⟨(srcM d).rules, (srcM d).zones, (srcM d).links, (srcM d).shifts ++ [x]⟩ := by
  obtain ⟨h1, h2, h3, h4, h5⟩ := srcM_small d
  have hs := (srcM_right d).sz
  refine bad_any (by simp; omega) (by simp; omega) (by simp; omega) (by simp; omega) (fun z hz => by have := h5 z hz; omega) ⟨hs.rules, hs.zones, hs.links, mem_snoc hs.shifts hz⟩ ?_
  unfold srcOk
  rw [all_snoc_no _ hx, Bool.and_false]

/-- rows that make lays -/
theorem made_flat {α : Type} (enc : α → Array Value) {k : Nat} (hk : 0 < k) (hs : ∀ x, (enc x).size = k) (x0 : α) (n : Nat) : (madeCells (enc x0) (n * k)).toList = flatC enc (List.replicate n x0) := by
  apply List.ext_getElem?
  intro q
  by_cases hq : q < n * k
  · have h2 := flatC_at hs (List.replicate n x0) (q / k) (q % k) x0 (by rw [List.getElem?_replicate, if_pos ((Nat.div_lt_iff_lt_mul hk).2 hq)]) (Nat.mod_lt q hk)
    rw [Nat.div_add_mod'] at h2
    rw [h2]
    have hm : q % k < (enc x0).size := by rw [hs]; exact Nat.mod_lt q hk
    unfold madeCells
    rw [Array.getElem?_toList, Array.getElem?_map, Array.getElem?_range, if_pos hq]
    simp only [Option.map_some, hs]
    rw [getElem!_pos (enc x0) (q % k) hm, Array.getElem?_toList, Array.getElem?_eq_getElem hm]
  · rw [List.getElem?_eq_none (by rw [Array.length_toList, size_madeCells]; omega), List.getElem?_eq_none (by rw [flatC_len hs, List.length_replicate]; omega)]
def ManyS (w : World) (gm : Nat) (W : World) : Prop := ∃ s v1 zv v3 v4 zs, Blk W gm 27 #[v1, zv, v3, v4] ∧ SrcIs W W.heap.size v1 zv v3 v4 zs s ∧ Below w.heap.size w W ∧ srcPrintR s = ([], 7) ∧ SrcSz s
theorem many_yes {s : SourceP} (h : manyB s = true) : srcPrintR s = ([], 7) := by unfold srcPrintR; rw [if_pos h]
def zoneZ : ZV := ⟨(⟨[], []⟩, .slice none 0 0), none, 0, rfl⟩
theorem mem_rep {α : Type} {p : α → Prop} {n : Nat} {x : α} (h : p x) : ∀ y ∈ List.replicate n x, p y := fun y hy => by rw [List.eq_of_mem_replicate hy]; exact h

/-- 61 eras, and a zone of them -/
def ES : List EraP := List.replicate 61 (eraG [])
def ZN (B : Nat) (u : Value) (W : World) : Prop := ∃ v, u = .agg #[.string ⟨#[]⟩, v] ∧ EraO B ES v W
def ZR (B : Nat) (u : Value) (W : World) : Prop := ∃ v, One 50 B #[.string ⟨#[]⟩, v] u W ∧ EraO B ES v W
def ZP (B L : Nat) (cur : List ZV) (u : Value) (W : World) : Prop := ∃ x : ZV, x.1.1 = ⟨[], ES⟩ ∧ ZoneO B (cur ++ [x]) u W ∧ EraO L ES x.1.2 W
theorem ZP.last (B L : Nat) (cur : List ZV) : Lasts (ZP B L cur) := fun _ _ _ hb ⟨x, e, h1, h2⟩ => ⟨x, e, h1.kept_ hb, h2.kept_ hb⟩
theorem lastsG_zn {e k B n L : Nat} {xs : List Value} {v : Value} (hL : Low L v) : LastsG (GOwn e k B n xs v) (ZN L) := fun u w w' hG ⟨y, e, h⟩ => ⟨y, e, lastsG_own hL y w w' hG h⟩
theorem lastsG_zr {e k B n L : Nat} {xs : List Value} {v : Value} (hL : Low L v) : LastsG (GOwn e k B n xs v) (ZR L) := fun u w w' hG ⟨y, e, h⟩ => ⟨y, lastsG_one hL u w w' hG e, lastsG_own hL y w w' hG h⟩
theorem relAt_make61 {o : Oper} {a : Act} (W : World) (L : Nat) (ho : o.op = .makeSlice 48 (.const (.int .i64 61)) (.const (.int .i64 61))) (hL : L ≤ W.heap.size) : relAt Tryz.prog o a W (EraO L ES) := by
  obtain ⟨i0, z0, hi, hz, hsz, hby, hzc⟩ := info_st (P := Tryz.prog) (e := 55) (k := 13) (by kernel_rfl)
  have hzz : i0.zero = some (.agg (EraP.cells (eraG []))) := by
    have h : (Tryz.prog.info? 55).bind (fun i => i.zero) = some (.agg (EraP.cells (eraG []))) := by kernel_rfl
    rw [hi] at h
    exact h
  obtain ⟨w', hrun, hown, hgr⟩ := run_make_full (P := Tryz.prog) W L 48 55 i0 _ 13 Tryz.underlying48 hi hzz hsz .i64 .i64 61 (by omega) (by decide) hL
  have hrun' : (Instr.makeSlice 48 (.int .i64 61) (.int .i64 61)).run Tryz.prog W = .ok (.slice (some ⟨W.heap.size, 0, none⟩) 61 61) w' := hrun
  unfold relAt execOp
  rw [ho]
  simp only [Act.eval, Sem.run_bind, hrun', Result.andThen_ok, Sem.run_pure]
  refine ⟨⟨hgr.os, hgr.tape, hgr.output, hgr.size, fun j hj => hgr.block j hj (by simp)⟩, ?_⟩
  show World.ownsRow _ _ _ _ _ _ _
  unfold ES
  rw [List.length_replicate, ← made_flat EraP.cells (by decide) (fun x => (eraOk_cells x).1) (eraG []) 61]
  exact hown
theorem es_len : ES.length = 61 := by unfold ES; rw [List.length_replicate]
theorem es_sz : ZoneSz ⟨[], ES⟩ := ⟨by decide, mem_rep ⟨by decide, by decide⟩⟩

set_option maxRecDepth 100000 in
set_option maxHeartbeats 4000000 in
theorem prefuses_any (va : Value) (d : DraftP) (n : Nat) (w : World) (ha : DraftV d va w) (hn : n < 256) (hT : ETabs w) (hR : RTabs w) :
    Calls Tryz.prog 7 #[va, .int .u8 (n : Int)] w fun e w' => e = .returned (.bool true) ∧ Below w.heap.size w w' := by
  have HTT := Lib.hid (fun W (hW : Below w.heap.size w W) => And.intro (hT.below hW) (hR.below hW))
  obtain ⟨irule, zrule, hirule, hzrule, hszrule, hbyrule, hzcrule⟩ := info_st (P := Tryz.prog) (e := 47) (k := 11) (by kernel_rfl)
  obtain ⟨izone, zzone, hizone, hzzone, hszzone, hbyzone, hzczone⟩ := info_st (P := Tryz.prog) (e := 50) (k := 2) (by kernel_rfl)
  obtain ⟨ilink, zlink, hilink, hzlink, hszlink, hbylink, hzclink⟩ := info_st (P := Tryz.prog) (e := 58) (k := 2) (by kernel_rfl)
  obtain ⟨istr, zstr, histr, hzstr, hszstr, hbystr, hzcstr⟩ := info_st (P := Tryz.prog) (e := 9) (k := 1) (by kernel_rfl)
  obtain ⟨p1, n1, c1, p2, n2, c2, p3, n3, c3, p4, n4, c4, p5, n5, c5, rfl⟩ := draft_slices ha
  have hb0 : Below w.heap.size w (w.alloc (.cells #[.slice p1 n1 c1, .slice p2 n2 c2, .slice p3 n3 c3, .slice p4 n4 c4, .slice p5 n5 c5] 39)) := (Below.refl _ _).alloc (Nat.le_refl _) _
  have HS0 := Lib.hid (show Blk (w.alloc (.cells #[.slice p1 n1 c1, .slice p2 n2 c2, .slice p3 n3 c3, .slice p4 n4 c4, .slice p5 n5 c5] 39)) w.heap.size 39 #[.slice p1 n1 c1, .slice p2 n2 c2, .slice p3 n3 c3, .slice p4 n4 c4, .slice p5 n5 c5] ∧ DraftV d (.agg #[.slice p1 n1 c1, .slice p2 n2 c2, .slice p3 n3 c3, .slice p4 n4 c4, .slice p5 n5 c5]) (w.alloc (.cells #[.slice p1 n1 c1, .slice p2 n2 c2, .slice p3 n3 c3, .slice p4 n4 c4, .slice p5 n5 c5] 39)) ∧ Below w.heap.size w (w.alloc (.cells #[.slice p1 n1 c1, .slice p2 n2 c2, .slice p3 n3 c3, .slice p4 n4 c4, .slice p5 n5 c5] 39)) from ⟨Blk.new' _ _ _ rfl, ha.below hb0, hb0⟩)
  clear ha hb0 hT hR
  go_enter Tryz.func7, Tryz.ntmps7
  go_upto_region 1 with fail
  generalize w.alloc (.cells #[.slice p1 n1 c1, .slice p2 n2 c2, .slice p3 n3 c3, .slice p4 n4 c4, .slice p5 n5 c5] 39) = w0 at *
  have a0 := HS0.out.1.cell_ (i := 0) rfl
  have a1 := HS0.out.1.cell_ (i := 1) rfl
  have a2 := HS0.out.1.cell_ (i := 2) rfl
  have a3 := HS0.out.1.cell_ (i := 3) rfl
  have a4 := HS0.out.1.cell_ (i := 4) rfl
  have HM := Lib.hid (made14_src HS0.out.2.1 HS0.out.2.2.size)
  go_wp2_with fail
  refine HM.out.mono ?_
  rintro e w1 ⟨⟨u, rfl, v1, zv, v3, v4, cur, rfl, hcur, hso⟩, hb⟩
  obtain ⟨q1, d1, rfl⟩ := own_form hso.rule
  obtain ⟨q2, d2, rfl⟩ := own_form hso.zone
  obtain ⟨q3, d3, rfl⟩ := own_form hso.link
  obtain ⟨q4, d4, rfl⟩ := own_form hso.str
  have hB1 : Below w.heap.size w w1 := HS0.out.2.2.trans (hb.mono HS0.out.2.2.size)
  have ha1 : Below w1.heap.size w1 (w1.alloc (.cells #[.slice q1 (srcM d).rules.length d1, .slice q2 cur.length d2, .slice q3 (srcM d).links.length d3, .slice q4 (srcM d).shifts.length d4] 27)) := (Below.refl _ _).alloc (Nat.le_refl _) _
  have HS1 := Lib.hid (show SB w.heap.size w1.heap.size (srcM d).rules cur (srcM d).links (srcM d).shifts (.slice q1 (srcM d).rules.length d1) (.slice q2 cur.length d2) (.slice q3 (srcM d).links.length d3) (.slice q4 (srcM d).shifts.length d4) (w1.alloc (.cells #[.slice q1 (srcM d).rules.length d1, .slice q2 cur.length d2, .slice q3 (srcM d).links.length d3, .slice q4 (srcM d).shifts.length d4] 27)) ∧ Below w.heap.size w (w1.alloc (.cells #[.slice q1 (srcM d).rules.length d1, .slice q2 cur.length d2, .slice q3 (srcM d).links.length d3, .slice q4 (srcM d).shifts.length d4] 27)) ∧ w.heap.size ≤ w1.heap.size from ⟨SB.of_so (hso.below ha1) (Blk.new' _ _ _ rfl), hB1.trans (ha1.mono hB1.size), hB1.size⟩)
  have HCU := Lib.hid hcur
  clear hb a0 a1 a2 a3 a4 HM HS0 hso ha1 hB1 hcur
  go_upto_region 2 with fail
  generalize w1.alloc (.cells #[.slice q1 (srcM d).rules.length d1, .slice q2 cur.length d2, .slice q3 (srcM d).links.length d3, .slice q4 (srcM d).shifts.length d4] 27) = w2 at *
  generalize w1.heap.size = gs at *
  go_upto_region 3 with fail
  have ha2 : Below w2.heap.size w2 (w2.alloc (.cells #[.int .i64 0, .int .i64 0, .int .i64 0, .string ⟨#[]⟩, .string ⟨#[71, 77, 84]⟩, .bool false, .int .i64 0, .int .i64 0, .int .i64 0, .int .i64 0, .int .i64 0, .int .i64 0, .int .i64 0] 55)) := (Below.refl _ _).alloc (Nat.le_refl _) _
  have HS2 := Lib.hid (show SB w.heap.size gs (srcM d).rules cur (srcM d).links (srcM d).shifts (.slice q1 (srcM d).rules.length d1) (.slice q2 cur.length d2) (.slice q3 (srcM d).links.length d3) (.slice q4 (srcM d).shifts.length d4) (w2.alloc (.cells #[.int .i64 0, .int .i64 0, .int .i64 0, .string ⟨#[]⟩, .string ⟨#[71, 77, 84]⟩, .bool false, .int .i64 0, .int .i64 0, .int .i64 0, .int .i64 0, .int .i64 0, .int .i64 0, .int .i64 0] 55)) ∧ Below w.heap.size w (w2.alloc (.cells #[.int .i64 0, .int .i64 0, .int .i64 0, .string ⟨#[]⟩, .string ⟨#[71, 77, 84]⟩, .bool false, .int .i64 0, .int .i64 0, .int .i64 0, .int .i64 0, .int .i64 0, .int .i64 0, .int .i64 0] 55)) ∧ w.heap.size ≤ gs ∧ Blk (w2.alloc (.cells #[.int .i64 0, .int .i64 0, .int .i64 0, .string ⟨#[]⟩, .string ⟨#[71, 77, 84]⟩, .bool false, .int .i64 0, .int .i64 0, .int .i64 0, .int .i64 0, .int .i64 0, .int .i64 0, .int .i64 0] 55)) w2.heap.size 55 (eraG [71, 77, 84]).cells ∧ w.heap.size ≤ w2.heap.size ∧ (∀ q ∈ cur, Low w2.heap.size q.1.2) ∧ gs < w2.heap.size ∧ w2.heap.size < (w2.alloc (.cells #[.int .i64 0, .int .i64 0, .int .i64 0, .string ⟨#[]⟩, .string ⟨#[71, 77, 84]⟩, .bool false, .int .i64 0, .int .i64 0, .int .i64 0, .int .i64 0, .int .i64 0, .int .i64 0, .int .i64 0] 55)).heap.size from ⟨HS1.out.1.below ha2, HS1.out.2.1.trans (ha2.mono HS1.out.2.1.size), HS1.out.2.2, Blk.new' _ _ _ rfl, HS1.out.2.1.size, fun q hq => low_of (HS1.out.1.eras q hq), HS1.out.1.out.lt, by simp⟩)
  clear ha2 HS1
  generalize w2.alloc (.cells #[.int .i64 0, .int .i64 0, .int .i64 0, .string ⟨#[]⟩, .string ⟨#[71, 77, 84]⟩, .bool false, .int .i64 0, .int .i64 0, .int .i64 0, .int .i64 0, .int .i64 0, .int .i64 0, .int .i64 0] 55) = w3 at *
  generalize w2.heap.size = ge at *
  have HN := Lib.hid (show Calls Tryz.prog 21 #[.agg #[.int .i32 0, .int .i32 0, .int .i32 0, .int .u8 0, .int .u8 0, .int .u8 0, .int .u16 0, .int .u8 0, .int .u8 0, .int .u8 0, .int .u8 0, .int .u8 0], .bool true] w3 fun e w' => e = .returned (.agg #[.int .i64 0, .int .i64 0, .int .i64 0, .string ⟨#[]⟩, .string ⟨#[71, 77, 84]⟩, .bool true, .int .i64 1850, .int .i64 1, .int .i64 1, .int .i64 0, .int .i64 1, .int .i64 0, .int .i64 0]) ∧ Below w3.heap.size w3 w' from by
    have := emade14_any DraftE.zero zero_ok true w3
    rw [end_made] at this
    exact this)
  go_wp2_with fail
  refine HN.out.mono ?_
  rintro e w4 ⟨rfl, hb⟩
  have ha4 : Below w4.heap.size w4 (w4.alloc (.cells #[.int .i64 0, .int .i64 0, .int .i64 0, .string ⟨#[]⟩, .string ⟨#[71, 77, 84]⟩, .bool true, .int .i64 1850, .int .i64 1, .int .i64 1, .int .i64 0, .int .i64 1, .int .i64 0, .int .i64 0] 55)) := (Below.refl _ _).alloc (Nat.le_refl _) _
  have hb4 : Below w3.heap.size w3 (w4.alloc (.cells #[.int .i64 0, .int .i64 0, .int .i64 0, .string ⟨#[]⟩, .string ⟨#[71, 77, 84]⟩, .bool true, .int .i64 1850, .int .i64 1, .int .i64 1, .int .i64 0, .int .i64 1, .int .i64 0, .int .i64 0] 55)) := hb.trans (ha4.mono hb.size)
  have HS4 := Lib.hid (show RS w gs ge w4.heap.size [71, 77, 84] (srcM d).rules cur (srcM d).links (srcM d).shifts (.slice q1 (srcM d).rules.length d1) (.slice q2 cur.length d2) (.slice q3 (srcM d).links.length d3) (.slice q4 (srcM d).shifts.length d4) (w4.alloc (.cells #[.int .i64 0, .int .i64 0, .int .i64 0, .string ⟨#[]⟩, .string ⟨#[71, 77, 84]⟩, .bool true, .int .i64 1850, .int .i64 1, .int .i64 1, .int .i64 0, .int .i64 1, .int .i64 0, .int .i64 0] 55)) from ⟨HS2.out.1.below hb4, HS2.out.2.2.2.1.below hb4 HS2.out.2.2.2.1.lt, Blk.new' _ _ _ rfl, HS2.out.2.1.trans (hb4.mono HS2.out.2.1.size), HS2.out.2.2.1, HS2.out.2.2.2.2.1, HS2.out.2.2.2.2.2.1, HS2.out.2.2.2.2.2.2.1, Nat.lt_of_lt_of_le HS2.out.2.2.2.2.2.2.2 hb.size⟩)
  clear hb ha4 hb4 HS2 HN
  go_upto_region 4 with fail
  generalize w4.alloc (.cells #[.int .i64 0, .int .i64 0, .int .i64 0, .string ⟨#[]⟩, .string ⟨#[71, 77, 84]⟩, .bool true, .int .i64 1850, .int .i64 1, .int .i64 1, .int .i64 0, .int .i64 1, .int .i64 0, .int .i64 0] 55) = w5 at *
  generalize w4.heap.size = gd at *
  have htm : (n : Int).tmod 10 = (n : Int) % 10 := Int.tmod_eq_emod_of_nonneg (by omega)
  go_upto_block 0 with fail
  go_cut [] (fun wx => BadS w gs wx)
  case first =>
    rcases (by omega : n % 10 = 0 ∨ n % 10 = 1 ∨ n % 10 = 2 ∨ n % 10 = 3 ∨ n % 10 = 4 ∨ n % 10 = 5 ∨ n % 10 = 6 ∨ n % 10 = 7 ∨ n % 10 = 8 ∨ n % 10 = 9) with hvv | hvv | hvv | hvv | hvv | hvv | hvv | hvv | hvv | hvv
    · have e0 : ((n : Int) % 10 == 0) = true := by rw [beq_iff_eq]; omega
      clear hvv
      have s0 := HS4.out.sb.out.cell_ (i := 0) rfl
      have hsz := HS4.out.bel.size
      have kz := srcM_small d
      have kcu : cur.length ≤ 6 := by have h := kz.2.1; rw [← HCU.out, List.length_map] at h; exact h
      have HO := Lib.hid (show w5.ownsRow w.heap.size 47 11 (.slice q1 (srcM d).rules.length d1) (srcM d).rules.length (flatC RuleP.cells (srcM d).rules) from HS4.out.sb.rule)
      have hnn : (srcM d).rules.length ≤ 12 := by omega
      clear kz kcu
      go_wp2_with (first | (at_builtin; refine wpList_append_any _ rfl (.tmp 31) (.tmp 33) 22 rfl w.heap.size 47 irule zrule 11 irule.bytes Tryz.underlying22 hirule hzrule hszrule rfl hzcrule (by decide) _ _ _ rfl (HO.out.alloc _) (w5.heap.size + 1) (some ⟨w5.heap.size, 0, none⟩) 1 1 [.string ⟨#[]⟩, .int .i64 0, .int .i64 0, .int .i64 0, .int .i64 0, .int .i64 0, .int .i64 0, .int .i64 0, .int .i64 0, .int .i64 0, .string ⟨#[]⟩] rfl ?c0 ?c1 ?c2 ?c3 ?c4 ?_) | fail)
      case c0 => exact ⟨rfl, fun _ => ⟨_, rfl, by simp, fun j u hu => by rw [Addr.add_lit, Nat.zero_add]; exact (show Blk (w5.alloc (.cells #[.string ⟨#[]⟩, .int .i64 0, .int .i64 0, .int .i64 0, .int .i64 0, .int .i64 0, .int .i64 0, .int .i64 0, .int .i64 0, .int .i64 0, .string ⟨#[]⟩] 47)) w5.heap.size 47 #[.string ⟨#[]⟩, .int .i64 0, .int .i64 0, .int .i64 0, .int .i64 0, .int .i64 0, .int .i64 0, .int .i64 0, .int .i64 0, .int .i64 0, .string ⟨#[]⟩] from Blk.new' _ _ _ (by simp)).cell_ (by simpa using hu)⟩⟩
      case c1 => intro u hu; simp only [List.mem_cons, List.not_mem_nil, or_false] at hu; rcases hu with rfl | rfl | rfl | rfl | rfl | rfl | rfl | rfl | rfl | rfl | rfl <;> rfl
      case c2 => unfold maxLen; omega
      case c3 =>
        have : ((srcM d).rules.length + 1) * irule.bytes ≤ 13 * 1000 := Nat.mul_le_mul (by omega) hbyrule
        omega
      case c4 => simp; omega
      intro v9 wb hown hgrow _
      have ha : Below w5.heap.size w5 (w5.alloc (.cells #[.string ⟨#[]⟩, .int .i64 0, .int .i64 0, .int .i64 0, .int .i64 0, .int .i64 0, .int .i64 0, .int .i64 0, .int .i64 0, .int .i64 0, .string ⟨#[]⟩] 47)) := (Below.refl _ _).alloc (Nat.le_refl _) _
      have hS := HS4.out.sb.below ha
      have hb9 := blk_grown hS.out hgrow hS.rule (by decide)
      have s0 := hb9.cell_ (i := 0) rfl
      have f0 := hb9.frozen 0
      have hbel : Below w.heap.size w wb := (HS4.out.bel.trans (ha.mono HS4.out.bel.size)).grown hgrow (by simp; omega) (own_base hS.rule)
      have hP := hS.prule hgrow (x := RuleP.none) (u := v9) (by show World.ownsRow _ _ _ _ _ _ _; rw [List.length_append, flatC_snoc]; exact hown)
      obtain ⟨q9, d9, rfl⟩ := own_form hown
      have HP := Lib.hid (And.intro hP hbel)
      clear hown hgrow ha hS hb9 hbel hP HO
      go_wp2_with fail
      go_meet
      have hcu := HCU.out
      have hs := HP.out.1.src
      exact ⟨_, _, _, _, _, _, HP.out.1.out, by rw [hcu] at hs; exact hs, HP.out.2.setCell HS4.out.gsl _, bad_rule d (by decide) ⟨by decide, by decide⟩⟩
    · have e0 : ((n : Int) % 10 == 0) = false := by rw [beq_eq_false_iff_ne]; omega
      have e1 : ((n : Int) % 10 == 1) = true := by rw [beq_iff_eq]; omega
      clear hvv
      have s1 := HS4.out.sb.out.cell_ (i := 1) rfl
      have hsz := HS4.out.bel.size
      have kz := srcM_small d
      have kcu : cur.length ≤ 6 := by have h := kz.2.1; rw [← HCU.out, List.length_map] at h; exact h
      have HO := Lib.hid (show w5.ownsRow w.heap.size 50 2 (.slice q2 cur.length d2) cur.length (flatC encZV cur) from HS4.out.sb.zone)
      have hnn : cur.length ≤ 12 := by omega
      clear kz kcu
      go_wp2_with (first | (at_builtin; refine wpList_append_any _ rfl (.tmp 39) (.tmp 41) 23 rfl w.heap.size 50 izone zzone 2 izone.bytes Tryz.underlying23 hizone hzzone hszzone rfl hzczone (by decide) _ _ _ rfl (HO.out.alloc _) (w5.heap.size + 1) (some ⟨w5.heap.size, 0, none⟩) 1 1 [.string ⟨#[65]⟩, .slice none 0 0] rfl ?c0 ?c1 ?c2 ?c3 ?c4 ?_) | fail)
      case c0 => exact ⟨rfl, fun _ => ⟨_, rfl, by simp, fun j u hu => by rw [Addr.add_lit, Nat.zero_add]; exact (show Blk (w5.alloc (.cells #[.string ⟨#[65]⟩, .slice none 0 0] 50)) w5.heap.size 50 #[.string ⟨#[65]⟩, .slice none 0 0] from Blk.new' _ _ _ (by simp)).cell_ (by simpa using hu)⟩⟩
      case c1 => intro u hu; simp only [List.mem_cons, List.not_mem_nil, or_false] at hu; rcases hu with rfl | rfl <;> rfl
      case c2 => unfold maxLen; omega
      case c3 =>
        have : (cur.length + 1) * izone.bytes ≤ 13 * 1000 := Nat.mul_le_mul (by omega) hbyzone
        omega
      case c4 => simp; omega
      intro v9 wb hown hgrow _
      have ha : Below w5.heap.size w5 (w5.alloc (.cells #[.string ⟨#[65]⟩, .slice none 0 0] 50)) := (Below.refl _ _).alloc (Nat.le_refl _) _
      have hS := HS4.out.sb.below ha
      have hb9 := blk_grown hS.out hgrow hS.zone (by decide)
      have s1 := hb9.cell_ (i := 1) rfl
      have f1 := hb9.frozen 1
      have hbel : Below w.heap.size w wb := (HS4.out.bel.trans (ha.mono HS4.out.bel.size)).grown hgrow (by simp; omega) (own_base hS.zone)
      have hP := hS.pzone hgrow (x := ⟨(⟨[65], []⟩, .slice none 0 0), none, 0, rfl⟩) (u := v9) (by show World.ownsRow _ _ _ _ _ _ _; rw [List.length_append, flatC_snoc]; exact hown) (World.ownsRow_nil ..)
      obtain ⟨q9, d9, rfl⟩ := own_form hown
      have HP := Lib.hid (And.intro hP hbel)
      clear hown hgrow ha hS hb9 hbel hP HO
      go_wp2_with fail
      go_meet
      have hcu := HCU.out
      have hs := HP.out.1.src
      exact ⟨_, _, _, _, _, _, HP.out.1.out, by rw [show (cur ++ [(⟨(⟨[65], []⟩, .slice none 0 0), none, 0, rfl⟩ : ZV)]).map (fun q => q.1.1) = (srcM d).zones ++ [⟨[65], []⟩] from by rw [List.map_append, hcu]; rfl] at hs; exact hs, HP.out.2.setCell HS4.out.gsl _, bad_zone d (x := ⟨[65], []⟩) (by decide) ⟨by decide, fun e he => absurd he List.not_mem_nil⟩ (by decide)⟩
    · have e0 : ((n : Int) % 10 == 0) = false := by rw [beq_eq_false_iff_ne]; omega
      have e1 : ((n : Int) % 10 == 1) = false := by rw [beq_eq_false_iff_ne]; omega
      have e2 : ((n : Int) % 10 == 2) = true := by rw [beq_iff_eq]; omega
      clear hvv
      have s1 := HS4.out.sb.out.cell_ (i := 1) rfl
      have hsz := HS4.out.bel.size
      have kz := srcM_small d
      have kcu : cur.length ≤ 6 := by have h := kz.2.1; rw [← HCU.out, List.length_map] at h; exact h
      have g0 : w5.cell? ⟨ge, 0, none⟩ = some (.int .i64 0) := HS4.out.era.cell_ rfl
      have g1 : w5.cell? ⟨ge, 1, none⟩ = some (.int .i64 0) := HS4.out.era.cell_ rfl
      have g2 : w5.cell? ⟨ge, 2, none⟩ = some (.int .i64 0) := HS4.out.era.cell_ rfl
      have g3 : w5.cell? ⟨ge, 3, none⟩ = some (.string ⟨#[]⟩) := HS4.out.era.cell_ rfl
      have g4 : w5.cell? ⟨ge, 4, none⟩ = some (.string ⟨#[71, 77, 84]⟩) := HS4.out.era.cell_ rfl
      have g5 : w5.cell? ⟨ge, 5, none⟩ = some (.bool false) := HS4.out.era.cell_ rfl
      have g6 : w5.cell? ⟨ge, 6, none⟩ = some (.int .i64 0) := HS4.out.era.cell_ rfl
      have g7 : w5.cell? ⟨ge, 7, none⟩ = some (.int .i64 0) := HS4.out.era.cell_ rfl
      have g8 : w5.cell? ⟨ge, 8, none⟩ = some (.int .i64 0) := HS4.out.era.cell_ rfl
      have g9 : w5.cell? ⟨ge, 9, none⟩ = some (.int .i64 0) := HS4.out.era.cell_ rfl
      have g10 : w5.cell? ⟨ge, 10, none⟩ = some (.int .i64 0) := HS4.out.era.cell_ rfl
      have g11 : w5.cell? ⟨ge, 11, none⟩ = some (.int .i64 0) := HS4.out.era.cell_ rfl
      have g12 : w5.cell? ⟨ge, 12, none⟩ = some (.int .i64 0) := HS4.out.era.cell_ rfl
      have HO := Lib.hid (show w5.ownsRow w.heap.size 50 2 (.slice q2 cur.length d2) cur.length (flatC encZV cur) from HS4.out.sb.zone)
      have hnn : cur.length ≤ 12 := by omega
      clear kz kcu
      go_wp2_with (first | (at_builtin; refine wpList_append_any _ rfl (.tmp 47) (.tmp 52) 23 rfl w.heap.size 50 izone zzone 2 izone.bytes Tryz.underlying23 hizone hzzone hszzone rfl hzczone (by decide) _ _ _ rfl ((HO.out.alloc _).alloc _) ((w5.heap.size + 1) + 1) (some ⟨(w5.heap.size + 1), 0, none⟩) 1 1 [.string ⟨#[65]⟩, .slice (some ⟨w5.heap.size, 0, none⟩) 2 2] rfl ?c0 ?c1 ?c2 ?c3 ?c4 ?_) | fail)
      case c0 => exact ⟨rfl, fun _ => ⟨_, rfl, by simp, fun j u hu => by rw [Addr.add_lit, Nat.zero_add]; exact (show Blk ((w5.alloc (.cells #[.int .i64 0, .int .i64 0, .int .i64 0, .string ⟨#[]⟩, .string ⟨#[71, 77, 84]⟩, .bool false, .int .i64 0, .int .i64 0, .int .i64 0, .int .i64 0, .int .i64 0, .int .i64 0, .int .i64 0, .int .i64 0, .int .i64 0, .int .i64 0, .string ⟨#[]⟩, .string ⟨#[71, 77, 84]⟩, .bool false, .int .i64 0, .int .i64 0, .int .i64 0, .int .i64 0, .int .i64 0, .int .i64 0, .int .i64 0] 55)).alloc (.cells #[.string ⟨#[65]⟩, .slice (some ⟨w5.heap.size, 0, none⟩) 2 2] 50)) (w5.heap.size + 1) 50 #[.string ⟨#[65]⟩, .slice (some ⟨w5.heap.size, 0, none⟩) 2 2] from Blk.new' _ _ _ (by simp)).cell_ (by simpa using hu)⟩⟩
      case c1 => intro u hu; simp only [List.mem_cons, List.not_mem_nil, or_false] at hu; rcases hu with rfl | rfl <;> rfl
      case c2 => unfold maxLen; omega
      case c3 =>
        have : (cur.length + 1) * izone.bytes ≤ 13 * 1000 := Nat.mul_le_mul (by omega) hbyzone
        omega
      case c4 => simp; omega
      intro v9 wb hown hgrow _
      have ha : Below w5.heap.size w5 ((w5.alloc (.cells #[.int .i64 0, .int .i64 0, .int .i64 0, .string ⟨#[]⟩, .string ⟨#[71, 77, 84]⟩, .bool false, .int .i64 0, .int .i64 0, .int .i64 0, .int .i64 0, .int .i64 0, .int .i64 0, .int .i64 0, .int .i64 0, .int .i64 0, .int .i64 0, .string ⟨#[]⟩, .string ⟨#[71, 77, 84]⟩, .bool false, .int .i64 0, .int .i64 0, .int .i64 0, .int .i64 0, .int .i64 0, .int .i64 0, .int .i64 0] 55)).alloc (.cells #[.string ⟨#[65]⟩, .slice (some ⟨w5.heap.size, 0, none⟩) 2 2] 50)) := ((Below.refl _ _).alloc (Nat.le_refl _) _).alloc (by simp) _
      have hS := HS4.out.sb.below ha
      have hb9 := blk_grown hS.out hgrow hS.zone (by decide)
      have s1 := hb9.cell_ (i := 1) rfl
      have f1 := hb9.frozen 1
      have hbel : Below w.heap.size w wb := (HS4.out.bel.trans (ha.mono HS4.out.bel.size)).grown hgrow (by simp; omega) (own_base hS.zone)
      have hE0 : (w5.alloc (.cells #[.int .i64 0, .int .i64 0, .int .i64 0, .string ⟨#[]⟩, .string ⟨#[71, 77, 84]⟩, .bool false, .int .i64 0, .int .i64 0, .int .i64 0, .int .i64 0, .int .i64 0, .int .i64 0, .int .i64 0, .int .i64 0, .int .i64 0, .int .i64 0, .string ⟨#[]⟩, .string ⟨#[71, 77, 84]⟩, .bool false, .int .i64 0, .int .i64 0, .int .i64 0, .int .i64 0, .int .i64 0, .int .i64 0, .int .i64 0] 55)).ownsRow w.heap.size 55 13 (.slice (some ⟨w5.heap.size, 0, none⟩) 2 2) 2 (flatC EraP.cells [eraG [71, 77, 84], eraG [71, 77, 84]]) := World.ownsRow_lit w5 #[.int .i64 0, .int .i64 0, .int .i64 0, .string ⟨#[]⟩, .string ⟨#[71, 77, 84]⟩, .bool false, .int .i64 0, .int .i64 0, .int .i64 0, .int .i64 0, .int .i64 0, .int .i64 0, .int .i64 0, .int .i64 0, .int .i64 0, .int .i64 0, .string ⟨#[]⟩, .string ⟨#[71, 77, 84]⟩, .bool false, .int .i64 0, .int .i64 0, .int .i64 0, .int .i64 0, .int .i64 0, .int .i64 0, .int .i64 0] 2 (by simpa using hsz) (by decide) rfl
      have hera : EraO w.heap.size [eraG [71, 77, 84], eraG [71, 77, 84]] (.slice (some ⟨w5.heap.size, 0, none⟩) 2 2) wb := World.ownsRow.kept (World.ownsRow.alloc hE0 _) hgrow (own_apart (World.ownsRow.alloc hE0 _) hS.zone (by decide))
      have hP := hS.pzone hgrow (x := ⟨(⟨[65], [eraG [71, 77, 84], eraG [71, 77, 84]]⟩, .slice (some ⟨w5.heap.size, 0, none⟩) 2 2), some ⟨w5.heap.size, 0, none⟩, 2, rfl⟩) (u := v9) (by show World.ownsRow _ _ _ _ _ _ _; rw [List.length_append, flatC_snoc]; exact hown) hera
      obtain ⟨q9, d9, rfl⟩ := own_form hown
      have HP := Lib.hid (And.intro hP hbel)
      clear hown hgrow ha hS hb9 hbel hP HO hera
      go_wp2_with fail
      go_meet
      have hcu := HCU.out
      have hs := HP.out.1.src
      exact ⟨_, _, _, _, _, _, HP.out.1.out, by rw [show (cur ++ [(⟨(⟨[65], [eraG [71, 77, 84], eraG [71, 77, 84]]⟩, .slice (some ⟨w5.heap.size, 0, none⟩) 2 2), some ⟨w5.heap.size, 0, none⟩, 2, rfl⟩ : ZV)]).map (fun q => q.1.1) = (srcM d).zones ++ [⟨[65], [eraG [71, 77, 84], eraG [71, 77, 84]]⟩] from by rw [List.map_append, hcu]; rfl] at hs; exact hs, HP.out.2.setCell HS4.out.gsl _, bad_zone d (x := ⟨[65], [eraG [71, 77, 84], eraG [71, 77, 84]]⟩) (by decide +kernel) (by unfold ZoneSz EraSz; decide) (by decide)⟩
    · have e0 : ((n : Int) % 10 == 0) = false := by rw [beq_eq_false_iff_ne]; omega
      have e1 : ((n : Int) % 10 == 1) = false := by rw [beq_eq_false_iff_ne]; omega
      have e2 : ((n : Int) % 10 == 2) = false := by rw [beq_eq_false_iff_ne]; omega
      have e3 : ((n : Int) % 10 == 3) = true := by rw [beq_iff_eq]; omega
      clear hvv
      have s1 := HS4.out.sb.out.cell_ (i := 1) rfl
      have hsz := HS4.out.bel.size
      have kz := srcM_small d
      have kcu : cur.length ≤ 6 := by have h := kz.2.1; rw [← HCU.out, List.length_map] at h; exact h
      have h0 : w5.cell? ⟨gd, 0, none⟩ = some (.int .i64 0) := HS4.out.en.cell_ rfl
      have h1 : w5.cell? ⟨gd, 1, none⟩ = some (.int .i64 0) := HS4.out.en.cell_ rfl
      have h2 : w5.cell? ⟨gd, 2, none⟩ = some (.int .i64 0) := HS4.out.en.cell_ rfl
      have h3 : w5.cell? ⟨gd, 3, none⟩ = some (.string ⟨#[]⟩) := HS4.out.en.cell_ rfl
      have h4 : w5.cell? ⟨gd, 4, none⟩ = some (.string ⟨#[71, 77, 84]⟩) := HS4.out.en.cell_ rfl
      have h5 : w5.cell? ⟨gd, 5, none⟩ = some (.bool true) := HS4.out.en.cell_ rfl
      have h6 : w5.cell? ⟨gd, 6, none⟩ = some (.int .i64 1850) := HS4.out.en.cell_ rfl
      have h7 : w5.cell? ⟨gd, 7, none⟩ = some (.int .i64 1) := HS4.out.en.cell_ rfl
      have h8 : w5.cell? ⟨gd, 8, none⟩ = some (.int .i64 1) := HS4.out.en.cell_ rfl
      have h9 : w5.cell? ⟨gd, 9, none⟩ = some (.int .i64 0) := HS4.out.en.cell_ rfl
      have h10 : w5.cell? ⟨gd, 10, none⟩ = some (.int .i64 1) := HS4.out.en.cell_ rfl
      have h11 : w5.cell? ⟨gd, 11, none⟩ = some (.int .i64 0) := HS4.out.en.cell_ rfl
      have h12 : w5.cell? ⟨gd, 12, none⟩ = some (.int .i64 0) := HS4.out.en.cell_ rfl
      have HO := Lib.hid (show w5.ownsRow w.heap.size 50 2 (.slice q2 cur.length d2) cur.length (flatC encZV cur) from HS4.out.sb.zone)
      have hnn : cur.length ≤ 12 := by omega
      clear kz kcu
      go_wp2_with (first | (at_builtin; refine wpList_append_any _ rfl (.tmp 58) (.tmp 62) 23 rfl w.heap.size 50 izone zzone 2 izone.bytes Tryz.underlying23 hizone hzzone hszzone rfl hzczone (by decide) _ _ _ rfl ((HO.out.alloc _).alloc _) ((w5.heap.size + 1) + 1) (some ⟨(w5.heap.size + 1), 0, none⟩) 1 1 [.string ⟨#[65]⟩, .slice (some ⟨w5.heap.size, 0, none⟩) 1 1] rfl ?c0 ?c1 ?c2 ?c3 ?c4 ?_) | fail)
      case c0 => exact ⟨rfl, fun _ => ⟨_, rfl, by simp, fun j u hu => by rw [Addr.add_lit, Nat.zero_add]; exact (show Blk ((w5.alloc (.cells #[.int .i64 0, .int .i64 0, .int .i64 0, .string ⟨#[]⟩, .string ⟨#[71, 77, 84]⟩, .bool true, .int .i64 1850, .int .i64 1, .int .i64 1, .int .i64 0, .int .i64 1, .int .i64 0, .int .i64 0] 55)).alloc (.cells #[.string ⟨#[65]⟩, .slice (some ⟨w5.heap.size, 0, none⟩) 1 1] 50)) (w5.heap.size + 1) 50 #[.string ⟨#[65]⟩, .slice (some ⟨w5.heap.size, 0, none⟩) 1 1] from Blk.new' _ _ _ (by simp)).cell_ (by simpa using hu)⟩⟩
      case c1 => intro u hu; simp only [List.mem_cons, List.not_mem_nil, or_false] at hu; rcases hu with rfl | rfl <;> rfl
      case c2 => unfold maxLen; omega
      case c3 =>
        have : (cur.length + 1) * izone.bytes ≤ 13 * 1000 := Nat.mul_le_mul (by omega) hbyzone
        omega
      case c4 => simp; omega
      intro v9 wb hown hgrow _
      have ha : Below w5.heap.size w5 ((w5.alloc (.cells #[.int .i64 0, .int .i64 0, .int .i64 0, .string ⟨#[]⟩, .string ⟨#[71, 77, 84]⟩, .bool true, .int .i64 1850, .int .i64 1, .int .i64 1, .int .i64 0, .int .i64 1, .int .i64 0, .int .i64 0] 55)).alloc (.cells #[.string ⟨#[65]⟩, .slice (some ⟨w5.heap.size, 0, none⟩) 1 1] 50)) := ((Below.refl _ _).alloc (Nat.le_refl _) _).alloc (by simp) _
      have hS := HS4.out.sb.below ha
      have hb9 := blk_grown hS.out hgrow hS.zone (by decide)
      have s1 := hb9.cell_ (i := 1) rfl
      have f1 := hb9.frozen 1
      have hbel : Below w.heap.size w wb := (HS4.out.bel.trans (ha.mono HS4.out.bel.size)).grown hgrow (by simp; omega) (own_base hS.zone)
      have hE0 : (w5.alloc (.cells #[.int .i64 0, .int .i64 0, .int .i64 0, .string ⟨#[]⟩, .string ⟨#[71, 77, 84]⟩, .bool true, .int .i64 1850, .int .i64 1, .int .i64 1, .int .i64 0, .int .i64 1, .int .i64 0, .int .i64 0] 55)).ownsRow w.heap.size 55 13 (.slice (some ⟨w5.heap.size, 0, none⟩) 1 1) 1 (flatC EraP.cells [endM]) := World.ownsRow_lit w5 #[.int .i64 0, .int .i64 0, .int .i64 0, .string ⟨#[]⟩, .string ⟨#[71, 77, 84]⟩, .bool true, .int .i64 1850, .int .i64 1, .int .i64 1, .int .i64 0, .int .i64 1, .int .i64 0, .int .i64 0] 1 (by simpa using hsz) (by decide) rfl
      have hera : EraO w.heap.size [endM] (.slice (some ⟨w5.heap.size, 0, none⟩) 1 1) wb := World.ownsRow.kept (World.ownsRow.alloc hE0 _) hgrow (own_apart (World.ownsRow.alloc hE0 _) hS.zone (by decide))
      have hP := hS.pzone hgrow (x := ⟨(⟨[65], [endM]⟩, .slice (some ⟨w5.heap.size, 0, none⟩) 1 1), some ⟨w5.heap.size, 0, none⟩, 1, rfl⟩) (u := v9) (by show World.ownsRow _ _ _ _ _ _ _; rw [List.length_append, flatC_snoc]; exact hown) hera
      obtain ⟨q9, d9, rfl⟩ := own_form hown
      have HP := Lib.hid (And.intro hP hbel)
      clear hown hgrow ha hS hb9 hbel hP HO hera
      go_wp2_with fail
      go_meet
      have hcu := HCU.out
      have hs := HP.out.1.src
      exact ⟨_, _, _, _, _, _, HP.out.1.out, by rw [show (cur ++ [(⟨(⟨[65], [endM]⟩, .slice (some ⟨w5.heap.size, 0, none⟩) 1 1), some ⟨w5.heap.size, 0, none⟩, 1, rfl⟩ : ZV)]).map (fun q => q.1.1) = (srcM d).zones ++ [⟨[65], [endM]⟩] from by rw [List.map_append, hcu]; rfl] at hs; exact hs, HP.out.2.setCell HS4.out.gsl _, bad_zone d (x := ⟨[65], [endM]⟩) (by decide +kernel) (by unfold ZoneSz EraSz; decide) (by decide)⟩
    · have e0 : ((n : Int) % 10 == 0) = false := by rw [beq_eq_false_iff_ne]; omega
      have e1 : ((n : Int) % 10 == 1) = false := by rw [beq_eq_false_iff_ne]; omega
      have e2 : ((n : Int) % 10 == 2) = false := by rw [beq_eq_false_iff_ne]; omega
      have e3 : ((n : Int) % 10 == 3) = false := by rw [beq_eq_false_iff_ne]; omega
      have e4 : ((n : Int) % 10 == 4) = true := by rw [beq_iff_eq]; omega
      clear hvv
      have s1 := HS4.out.sb.out.cell_ (i := 1) rfl
      have hsz := HS4.out.bel.size
      have kz := srcM_small d
      have kcu : cur.length ≤ 6 := by have h := kz.2.1; rw [← HCU.out, List.length_map] at h; exact h
      have g0 : w5.cell? ⟨ge, 0, none⟩ = some (.int .i64 0) := HS4.out.era.cell_ rfl
      have g1 : w5.cell? ⟨ge, 1, none⟩ = some (.int .i64 0) := HS4.out.era.cell_ rfl
      have g2 : w5.cell? ⟨ge, 2, none⟩ = some (.int .i64 0) := HS4.out.era.cell_ rfl
      have g3 : w5.cell? ⟨ge, 3, none⟩ = some (.string ⟨#[]⟩) := HS4.out.era.cell_ rfl
      have g4 : w5.cell? ⟨ge, 4, none⟩ = some (.string ⟨#[71, 77, 84]⟩) := HS4.out.era.cell_ rfl
      have g5 : w5.cell? ⟨ge, 5, none⟩ = some (.bool false) := HS4.out.era.cell_ rfl
      have g6 : w5.cell? ⟨ge, 6, none⟩ = some (.int .i64 0) := HS4.out.era.cell_ rfl
      have g7 : w5.cell? ⟨ge, 7, none⟩ = some (.int .i64 0) := HS4.out.era.cell_ rfl
      have g8 : w5.cell? ⟨ge, 8, none⟩ = some (.int .i64 0) := HS4.out.era.cell_ rfl
      have g9 : w5.cell? ⟨ge, 9, none⟩ = some (.int .i64 0) := HS4.out.era.cell_ rfl
      have g10 : w5.cell? ⟨ge, 10, none⟩ = some (.int .i64 0) := HS4.out.era.cell_ rfl
      have g11 : w5.cell? ⟨ge, 11, none⟩ = some (.int .i64 0) := HS4.out.era.cell_ rfl
      have g12 : w5.cell? ⟨ge, 12, none⟩ = some (.int .i64 0) := HS4.out.era.cell_ rfl
      have HO := Lib.hid (show w5.ownsRow w.heap.size 50 2 (.slice q2 cur.length d2) cur.length (flatC encZV cur) from HS4.out.sb.zone)
      have hnn : cur.length ≤ 12 := by omega
      clear kz kcu
      go_wp2_with (first | (at_builtin; refine wpList_append_any _ rfl (.tmp 68) (.tmp 72) 23 rfl w.heap.size 50 izone zzone 2 izone.bytes Tryz.underlying23 hizone hzzone hszzone rfl hzczone (by decide) _ _ _ rfl ((HO.out.alloc _).alloc _) ((w5.heap.size + 1) + 1) (some ⟨(w5.heap.size + 1), 0, none⟩) 1 1 [.string ⟨#[97, 32, 98]⟩, .slice (some ⟨w5.heap.size, 0, none⟩) 1 1] rfl ?c0 ?c1 ?c2 ?c3 ?c4 ?_) | fail)
      case c0 => exact ⟨rfl, fun _ => ⟨_, rfl, by simp, fun j u hu => by rw [Addr.add_lit, Nat.zero_add]; exact (show Blk ((w5.alloc (.cells #[.int .i64 0, .int .i64 0, .int .i64 0, .string ⟨#[]⟩, .string ⟨#[71, 77, 84]⟩, .bool false, .int .i64 0, .int .i64 0, .int .i64 0, .int .i64 0, .int .i64 0, .int .i64 0, .int .i64 0] 55)).alloc (.cells #[.string ⟨#[97, 32, 98]⟩, .slice (some ⟨w5.heap.size, 0, none⟩) 1 1] 50)) (w5.heap.size + 1) 50 #[.string ⟨#[97, 32, 98]⟩, .slice (some ⟨w5.heap.size, 0, none⟩) 1 1] from Blk.new' _ _ _ (by simp)).cell_ (by simpa using hu)⟩⟩
      case c1 => intro u hu; simp only [List.mem_cons, List.not_mem_nil, or_false] at hu; rcases hu with rfl | rfl <;> rfl
      case c2 => unfold maxLen; omega
      case c3 =>
        have : (cur.length + 1) * izone.bytes ≤ 13 * 1000 := Nat.mul_le_mul (by omega) hbyzone
        omega
      case c4 => simp; omega
      intro v9 wb hown hgrow _
      have ha : Below w5.heap.size w5 ((w5.alloc (.cells #[.int .i64 0, .int .i64 0, .int .i64 0, .string ⟨#[]⟩, .string ⟨#[71, 77, 84]⟩, .bool false, .int .i64 0, .int .i64 0, .int .i64 0, .int .i64 0, .int .i64 0, .int .i64 0, .int .i64 0] 55)).alloc (.cells #[.string ⟨#[97, 32, 98]⟩, .slice (some ⟨w5.heap.size, 0, none⟩) 1 1] 50)) := ((Below.refl _ _).alloc (Nat.le_refl _) _).alloc (by simp) _
      have hS := HS4.out.sb.below ha
      have hb9 := blk_grown hS.out hgrow hS.zone (by decide)
      have s1 := hb9.cell_ (i := 1) rfl
      have f1 := hb9.frozen 1
      have hbel : Below w.heap.size w wb := (HS4.out.bel.trans (ha.mono HS4.out.bel.size)).grown hgrow (by simp; omega) (own_base hS.zone)
      have hE0 : (w5.alloc (.cells #[.int .i64 0, .int .i64 0, .int .i64 0, .string ⟨#[]⟩, .string ⟨#[71, 77, 84]⟩, .bool false, .int .i64 0, .int .i64 0, .int .i64 0, .int .i64 0, .int .i64 0, .int .i64 0, .int .i64 0] 55)).ownsRow w.heap.size 55 13 (.slice (some ⟨w5.heap.size, 0, none⟩) 1 1) 1 (flatC EraP.cells [eraG [71, 77, 84]]) := World.ownsRow_lit w5 #[.int .i64 0, .int .i64 0, .int .i64 0, .string ⟨#[]⟩, .string ⟨#[71, 77, 84]⟩, .bool false, .int .i64 0, .int .i64 0, .int .i64 0, .int .i64 0, .int .i64 0, .int .i64 0, .int .i64 0] 1 (by simpa using hsz) (by decide) rfl
      have hera : EraO w.heap.size [eraG [71, 77, 84]] (.slice (some ⟨w5.heap.size, 0, none⟩) 1 1) wb := World.ownsRow.kept (World.ownsRow.alloc hE0 _) hgrow (own_apart (World.ownsRow.alloc hE0 _) hS.zone (by decide))
      have hP := hS.pzone hgrow (x := ⟨(⟨[97, 32, 98], [eraG [71, 77, 84]]⟩, .slice (some ⟨w5.heap.size, 0, none⟩) 1 1), some ⟨w5.heap.size, 0, none⟩, 1, rfl⟩) (u := v9) (by show World.ownsRow _ _ _ _ _ _ _; rw [List.length_append, flatC_snoc]; exact hown) hera
      obtain ⟨q9, d9, rfl⟩ := own_form hown
      have HP := Lib.hid (And.intro hP hbel)
      clear hown hgrow ha hS hb9 hbel hP HO hera
      go_wp2_with fail
      go_meet
      have hcu := HCU.out
      have hs := HP.out.1.src
      exact ⟨_, _, _, _, _, _, HP.out.1.out, by rw [show (cur ++ [(⟨(⟨[97, 32, 98], [eraG [71, 77, 84]]⟩, .slice (some ⟨w5.heap.size, 0, none⟩) 1 1), some ⟨w5.heap.size, 0, none⟩, 1, rfl⟩ : ZV)]).map (fun q => q.1.1) = (srcM d).zones ++ [⟨[97, 32, 98], [eraG [71, 77, 84]]⟩] from by rw [List.map_append, hcu]; rfl] at hs; exact hs, HP.out.2.setCell HS4.out.gsl _, bad_zone d (x := ⟨[97, 32, 98], [eraG [71, 77, 84]]⟩) (by decide +kernel) (by unfold ZoneSz EraSz; decide) (by decide)⟩
    · have e0 : ((n : Int) % 10 == 0) = false := by rw [beq_eq_false_iff_ne]; omega
      have e1 : ((n : Int) % 10 == 1) = false := by rw [beq_eq_false_iff_ne]; omega
      have e2 : ((n : Int) % 10 == 2) = false := by rw [beq_eq_false_iff_ne]; omega
      have e3 : ((n : Int) % 10 == 3) = false := by rw [beq_eq_false_iff_ne]; omega
      have e4 : ((n : Int) % 10 == 4) = false := by rw [beq_eq_false_iff_ne]; omega
      have e5 : ((n : Int) % 10 == 5) = true := by rw [beq_iff_eq]; omega
      clear hvv
      have g4 : w5.cell? ⟨ge, 4, none⟩ = some (.string ⟨#[71, 77, 84]⟩) := HS4.out.era.cell_ rfl
      have f4 := HS4.out.era.frozen 4
      go_upto_region 19 with fail
      have HS5 := Lib.hid (HS4.out.fmt [97, 32, 98])
      clear g4 f4 HS4
      generalize w5.setCell ⟨ge, 4, none⟩ (.string ⟨#[97, 32, 98]⟩) = w6 at *
      have s1 := HS5.out.sb.out.cell_ (i := 1) rfl
      have hsz := HS5.out.bel.size
      have kz := srcM_small d
      have kcu : cur.length ≤ 6 := by have h := kz.2.1; rw [← HCU.out, List.length_map] at h; exact h
      have g0 : w6.cell? ⟨ge, 0, none⟩ = some (.int .i64 0) := HS5.out.era.cell_ rfl
      have g1 : w6.cell? ⟨ge, 1, none⟩ = some (.int .i64 0) := HS5.out.era.cell_ rfl
      have g2 : w6.cell? ⟨ge, 2, none⟩ = some (.int .i64 0) := HS5.out.era.cell_ rfl
      have g3 : w6.cell? ⟨ge, 3, none⟩ = some (.string ⟨#[]⟩) := HS5.out.era.cell_ rfl
      have g4 : w6.cell? ⟨ge, 4, none⟩ = some (.string ⟨#[97, 32, 98]⟩) := HS5.out.era.cell_ rfl
      have g5 : w6.cell? ⟨ge, 5, none⟩ = some (.bool false) := HS5.out.era.cell_ rfl
      have g6 : w6.cell? ⟨ge, 6, none⟩ = some (.int .i64 0) := HS5.out.era.cell_ rfl
      have g7 : w6.cell? ⟨ge, 7, none⟩ = some (.int .i64 0) := HS5.out.era.cell_ rfl
      have g8 : w6.cell? ⟨ge, 8, none⟩ = some (.int .i64 0) := HS5.out.era.cell_ rfl
      have g9 : w6.cell? ⟨ge, 9, none⟩ = some (.int .i64 0) := HS5.out.era.cell_ rfl
      have g10 : w6.cell? ⟨ge, 10, none⟩ = some (.int .i64 0) := HS5.out.era.cell_ rfl
      have g11 : w6.cell? ⟨ge, 11, none⟩ = some (.int .i64 0) := HS5.out.era.cell_ rfl
      have g12 : w6.cell? ⟨ge, 12, none⟩ = some (.int .i64 0) := HS5.out.era.cell_ rfl
      have HO := Lib.hid (show w6.ownsRow w.heap.size 50 2 (.slice q2 cur.length d2) cur.length (flatC encZV cur) from HS5.out.sb.zone)
      have hnn : cur.length ≤ 12 := by omega
      clear kz kcu
      go_wp2_with (first | (at_builtin; refine wpList_append_any _ rfl (.tmp 79) (.tmp 83) 23 rfl w.heap.size 50 izone zzone 2 izone.bytes Tryz.underlying23 hizone hzzone hszzone rfl hzczone (by decide) _ _ _ rfl ((HO.out.alloc _).alloc _) ((w6.heap.size + 1) + 1) (some ⟨(w6.heap.size + 1), 0, none⟩) 1 1 [.string ⟨#[65]⟩, .slice (some ⟨w6.heap.size, 0, none⟩) 1 1] rfl ?c0 ?c1 ?c2 ?c3 ?c4 ?_) | fail)
      case c0 => exact ⟨rfl, fun _ => ⟨_, rfl, by simp, fun j u hu => by rw [Addr.add_lit, Nat.zero_add]; exact (show Blk ((w6.alloc (.cells #[.int .i64 0, .int .i64 0, .int .i64 0, .string ⟨#[]⟩, .string ⟨#[97, 32, 98]⟩, .bool false, .int .i64 0, .int .i64 0, .int .i64 0, .int .i64 0, .int .i64 0, .int .i64 0, .int .i64 0] 55)).alloc (.cells #[.string ⟨#[65]⟩, .slice (some ⟨w6.heap.size, 0, none⟩) 1 1] 50)) (w6.heap.size + 1) 50 #[.string ⟨#[65]⟩, .slice (some ⟨w6.heap.size, 0, none⟩) 1 1] from Blk.new' _ _ _ (by simp)).cell_ (by simpa using hu)⟩⟩
      case c1 => intro u hu; simp only [List.mem_cons, List.not_mem_nil, or_false] at hu; rcases hu with rfl | rfl <;> rfl
      case c2 => unfold maxLen; omega
      case c3 =>
        have : (cur.length + 1) * izone.bytes ≤ 13 * 1000 := Nat.mul_le_mul (by omega) hbyzone
        omega
      case c4 => simp; omega
      intro v9 wb hown hgrow _
      have ha : Below w6.heap.size w6 ((w6.alloc (.cells #[.int .i64 0, .int .i64 0, .int .i64 0, .string ⟨#[]⟩, .string ⟨#[97, 32, 98]⟩, .bool false, .int .i64 0, .int .i64 0, .int .i64 0, .int .i64 0, .int .i64 0, .int .i64 0, .int .i64 0] 55)).alloc (.cells #[.string ⟨#[65]⟩, .slice (some ⟨w6.heap.size, 0, none⟩) 1 1] 50)) := ((Below.refl _ _).alloc (Nat.le_refl _) _).alloc (by simp) _
      have hS := HS5.out.sb.below ha
      have hb9 := blk_grown hS.out hgrow hS.zone (by decide)
      have s1 := hb9.cell_ (i := 1) rfl
      have f1 := hb9.frozen 1
      have hbel : Below w.heap.size w wb := (HS5.out.bel.trans (ha.mono HS5.out.bel.size)).grown hgrow (by simp; omega) (own_base hS.zone)
      have hE0 : (w6.alloc (.cells #[.int .i64 0, .int .i64 0, .int .i64 0, .string ⟨#[]⟩, .string ⟨#[97, 32, 98]⟩, .bool false, .int .i64 0, .int .i64 0, .int .i64 0, .int .i64 0, .int .i64 0, .int .i64 0, .int .i64 0] 55)).ownsRow w.heap.size 55 13 (.slice (some ⟨w6.heap.size, 0, none⟩) 1 1) 1 (flatC EraP.cells [eraG [97, 32, 98]]) := World.ownsRow_lit w6 #[.int .i64 0, .int .i64 0, .int .i64 0, .string ⟨#[]⟩, .string ⟨#[97, 32, 98]⟩, .bool false, .int .i64 0, .int .i64 0, .int .i64 0, .int .i64 0, .int .i64 0, .int .i64 0, .int .i64 0] 1 (by simpa using hsz) (by decide) rfl
      have hera : EraO w.heap.size [eraG [97, 32, 98]] (.slice (some ⟨w6.heap.size, 0, none⟩) 1 1) wb := World.ownsRow.kept (World.ownsRow.alloc hE0 _) hgrow (own_apart (World.ownsRow.alloc hE0 _) hS.zone (by decide))
      have hP := hS.pzone hgrow (x := ⟨(⟨[65], [eraG [97, 32, 98]]⟩, .slice (some ⟨w6.heap.size, 0, none⟩) 1 1), some ⟨w6.heap.size, 0, none⟩, 1, rfl⟩) (u := v9) (by show World.ownsRow _ _ _ _ _ _ _; rw [List.length_append, flatC_snoc]; exact hown) hera
      obtain ⟨q9, d9, rfl⟩ := own_form hown
      have HP := Lib.hid (And.intro hP hbel)
      clear hown hgrow ha hS hb9 hbel hP HO hera
      go_wp2_with fail
      go_meet
      have hcu := HCU.out
      have hs := HP.out.1.src
      exact ⟨_, _, _, _, _, _, HP.out.1.out, by rw [show (cur ++ [(⟨(⟨[65], [eraG [97, 32, 98]]⟩, .slice (some ⟨w6.heap.size, 0, none⟩) 1 1), some ⟨w6.heap.size, 0, none⟩, 1, rfl⟩ : ZV)]).map (fun q => q.1.1) = (srcM d).zones ++ [⟨[65], [eraG [97, 32, 98]]⟩] from by rw [List.map_append, hcu]; rfl] at hs; exact hs, HP.out.2.setCell HS5.out.gsl _, bad_zone d (x := ⟨[65], [eraG [97, 32, 98]]⟩) (by decide +kernel) (by unfold ZoneSz EraSz; decide) (by decide)⟩
    · have e0 : ((n : Int) % 10 == 0) = false := by rw [beq_eq_false_iff_ne]; omega
      have e1 : ((n : Int) % 10 == 1) = false := by rw [beq_eq_false_iff_ne]; omega
      have e2 : ((n : Int) % 10 == 2) = false := by rw [beq_eq_false_iff_ne]; omega
      have e3 : ((n : Int) % 10 == 3) = false := by rw [beq_eq_false_iff_ne]; omega
      have e4 : ((n : Int) % 10 == 4) = false := by rw [beq_eq_false_iff_ne]; omega
      have e5 : ((n : Int) % 10 == 5) = false := by rw [beq_eq_false_iff_ne]; omega
      have e6 : ((n : Int) % 10 == 6) = true := by rw [beq_iff_eq]; omega
      clear hvv
      have s2 := HS4.out.sb.out.cell_ (i := 2) rfl
      have hsz := HS4.out.bel.size
      have kz := srcM_small d
      have kcu : cur.length ≤ 6 := by have h := kz.2.1; rw [← HCU.out, List.length_map] at h; exact h
      have HO := Lib.hid (show w5.ownsRow w.heap.size 58 2 (.slice q3 (srcM d).links.length d3) (srcM d).links.length (flatC LinkP.cells (srcM d).links) from HS4.out.sb.link)
      have hnn : (srcM d).links.length ≤ 12 := by omega
      clear kz kcu
      go_wp2_with (first | (at_builtin; refine wpList_append_any _ rfl (.tmp 89) (.tmp 92) 24 rfl w.heap.size 58 ilink zlink 2 ilink.bytes Tryz.underlying24 hilink hzlink hszlink rfl hzclink (by decide) _ _ _ rfl (HO.out.alloc _) (w5.heap.size + 1) (some ⟨w5.heap.size, 0, none⟩) 1 1 [.string ⟨#[]⟩, .string ⟨#[65]⟩] rfl ?c0 ?c1 ?c2 ?c3 ?c4 ?_) | fail)
      case c0 => exact ⟨rfl, fun _ => ⟨_, rfl, by simp, fun j u hu => by rw [Addr.add_lit, Nat.zero_add]; exact (show Blk (w5.alloc (.cells #[.string ⟨#[]⟩, .string ⟨#[65]⟩] 58)) w5.heap.size 58 #[.string ⟨#[]⟩, .string ⟨#[65]⟩] from Blk.new' _ _ _ (by simp)).cell_ (by simpa using hu)⟩⟩
      case c1 => intro u hu; simp only [List.mem_cons, List.not_mem_nil, or_false] at hu; rcases hu with rfl | rfl <;> rfl
      case c2 => unfold maxLen; omega
      case c3 =>
        have : ((srcM d).links.length + 1) * ilink.bytes ≤ 13 * 1000 := Nat.mul_le_mul (by omega) hbylink
        omega
      case c4 => simp; omega
      intro v9 wb hown hgrow _
      have ha : Below w5.heap.size w5 (w5.alloc (.cells #[.string ⟨#[]⟩, .string ⟨#[65]⟩] 58)) := (Below.refl _ _).alloc (Nat.le_refl _) _
      have hS := HS4.out.sb.below ha
      have hb9 := blk_grown hS.out hgrow hS.link (by decide)
      have s2 := hb9.cell_ (i := 2) rfl
      have f2 := hb9.frozen 2
      have hbel : Below w.heap.size w wb := (HS4.out.bel.trans (ha.mono HS4.out.bel.size)).grown hgrow (by simp; omega) (own_base hS.link)
      have hP := hS.plink hgrow (x := ⟨[], [65]⟩) (u := v9) (by show World.ownsRow _ _ _ _ _ _ _; rw [List.length_append, flatC_snoc]; exact hown)
      obtain ⟨q9, d9, rfl⟩ := own_form hown
      have HP := Lib.hid (And.intro hP hbel)
      clear hown hgrow ha hS hb9 hbel hP HO
      go_wp2_with fail
      go_meet
      have hcu := HCU.out
      have hs := HP.out.1.src
      exact ⟨_, _, _, _, _, _, HP.out.1.out, by rw [hcu] at hs; exact hs, HP.out.2.setCell HS4.out.gsl _, bad_link d (by decide +kernel) ⟨by decide, by decide⟩⟩
    · have e0 : ((n : Int) % 10 == 0) = false := by rw [beq_eq_false_iff_ne]; omega
      have e1 : ((n : Int) % 10 == 1) = false := by rw [beq_eq_false_iff_ne]; omega
      have e2 : ((n : Int) % 10 == 2) = false := by rw [beq_eq_false_iff_ne]; omega
      have e3 : ((n : Int) % 10 == 3) = false := by rw [beq_eq_false_iff_ne]; omega
      have e4 : ((n : Int) % 10 == 4) = false := by rw [beq_eq_false_iff_ne]; omega
      have e5 : ((n : Int) % 10 == 5) = false := by rw [beq_eq_false_iff_ne]; omega
      have e6 : ((n : Int) % 10 == 6) = false := by rw [beq_eq_false_iff_ne]; omega
      have e7 : ((n : Int) % 10 == 7) = true := by rw [beq_iff_eq]; omega
      clear hvv
      have s2 := HS4.out.sb.out.cell_ (i := 2) rfl
      have hsz := HS4.out.bel.size
      have kz := srcM_small d
      have kcu : cur.length ≤ 6 := by have h := kz.2.1; rw [← HCU.out, List.length_map] at h; exact h
      have HO := Lib.hid (show w5.ownsRow w.heap.size 58 2 (.slice q3 (srcM d).links.length d3) (srcM d).links.length (flatC LinkP.cells (srcM d).links) from HS4.out.sb.link)
      have hnn : (srcM d).links.length ≤ 12 := by omega
      clear kz kcu
      go_wp2_with (first | (at_builtin; refine wpList_append_any _ rfl (.tmp 98) (.tmp 100) 24 rfl w.heap.size 58 ilink zlink 2 ilink.bytes Tryz.underlying24 hilink hzlink hszlink rfl hzclink (by decide) _ _ _ rfl (HO.out.alloc _) (w5.heap.size + 1) (some ⟨w5.heap.size, 0, none⟩) 1 1 [.string ⟨#[65]⟩, .string ⟨#[47]⟩] rfl ?c0 ?c1 ?c2 ?c3 ?c4 ?_) | fail)
      case c0 => exact ⟨rfl, fun _ => ⟨_, rfl, by simp, fun j u hu => by rw [Addr.add_lit, Nat.zero_add]; exact (show Blk (w5.alloc (.cells #[.string ⟨#[65]⟩, .string ⟨#[47]⟩] 58)) w5.heap.size 58 #[.string ⟨#[65]⟩, .string ⟨#[47]⟩] from Blk.new' _ _ _ (by simp)).cell_ (by simpa using hu)⟩⟩
      case c1 => intro u hu; simp only [List.mem_cons, List.not_mem_nil, or_false] at hu; rcases hu with rfl | rfl <;> rfl
      case c2 => unfold maxLen; omega
      case c3 =>
        have : ((srcM d).links.length + 1) * ilink.bytes ≤ 13 * 1000 := Nat.mul_le_mul (by omega) hbylink
        omega
      case c4 => simp; omega
      intro v9 wb hown hgrow _
      have ha : Below w5.heap.size w5 (w5.alloc (.cells #[.string ⟨#[65]⟩, .string ⟨#[47]⟩] 58)) := (Below.refl _ _).alloc (Nat.le_refl _) _
      have hS := HS4.out.sb.below ha
      have hb9 := blk_grown hS.out hgrow hS.link (by decide)
      have s2 := hb9.cell_ (i := 2) rfl
      have f2 := hb9.frozen 2
      have hbel : Below w.heap.size w wb := (HS4.out.bel.trans (ha.mono HS4.out.bel.size)).grown hgrow (by simp; omega) (own_base hS.link)
      have hP := hS.plink hgrow (x := ⟨[65], [47]⟩) (u := v9) (by show World.ownsRow _ _ _ _ _ _ _; rw [List.length_append, flatC_snoc]; exact hown)
      obtain ⟨q9, d9, rfl⟩ := own_form hown
      have HP := Lib.hid (And.intro hP hbel)
      clear hown hgrow ha hS hb9 hbel hP HO
      go_wp2_with fail
      go_meet
      have hcu := HCU.out
      have hs := HP.out.1.src
      exact ⟨_, _, _, _, _, _, HP.out.1.out, by rw [hcu] at hs; exact hs, HP.out.2.setCell HS4.out.gsl _, bad_link d (by decide +kernel) ⟨by decide, by decide⟩⟩
    · have e0 : ((n : Int) % 10 == 0) = false := by rw [beq_eq_false_iff_ne]; omega
      have e1 : ((n : Int) % 10 == 1) = false := by rw [beq_eq_false_iff_ne]; omega
      have e2 : ((n : Int) % 10 == 2) = false := by rw [beq_eq_false_iff_ne]; omega
      have e3 : ((n : Int) % 10 == 3) = false := by rw [beq_eq_false_iff_ne]; omega
      have e4 : ((n : Int) % 10 == 4) = false := by rw [beq_eq_false_iff_ne]; omega
      have e5 : ((n : Int) % 10 == 5) = false := by rw [beq_eq_false_iff_ne]; omega
      have e6 : ((n : Int) % 10 == 6) = false := by rw [beq_eq_false_iff_ne]; omega
      have e7 : ((n : Int) % 10 == 7) = false := by rw [beq_eq_false_iff_ne]; omega
      have e8 : ((n : Int) % 10 == 8) = true := by rw [beq_iff_eq]; omega
      clear hvv
      have s3 := HS4.out.sb.out.cell_ (i := 3) rfl
      have hsz := HS4.out.bel.size
      have kz := srcM_small d
      have kcu : cur.length ≤ 6 := by have h := kz.2.1; rw [← HCU.out, List.length_map] at h; exact h
      have HO := Lib.hid (show w5.ownsRow w.heap.size 9 1 (.slice q4 (srcM d).shifts.length d4) (srcM d).shifts.length (flatC encS (srcM d).shifts) from HS4.out.sb.str)
      have hnn : (srcM d).shifts.length ≤ 12 := by omega
      clear kz kcu
      go_wp2_with (first | (at_builtin; refine wpList_append_any _ rfl (.tmp 106) (.tmp 108) 25 rfl w.heap.size 9 istr zstr 1 istr.bytes Tryz.underlying25 histr hzstr hszstr rfl hzcstr (by decide) _ _ _ rfl (HO.out.alloc _) (w5.heap.size + 1) (some ⟨w5.heap.size, 0, none⟩) 1 1 [.string ⟨#[]⟩] rfl ?c0 ?c1 ?c2 ?c3 ?c4 ?_) | fail)
      case c0 => exact ⟨rfl, fun _ => ⟨_, rfl, by simp, fun j u hu => by rw [Addr.add_lit, Nat.zero_add]; exact (show Blk (w5.alloc (.cells #[.string ⟨#[]⟩] 9)) w5.heap.size 9 #[.string ⟨#[]⟩] from Blk.new' _ _ _ (by simp)).cell_ (by simpa using hu)⟩⟩
      case c1 => intro u hu; simp only [List.mem_cons, List.not_mem_nil, or_false] at hu; rcases hu with rfl <;> rfl
      case c2 => unfold maxLen; omega
      case c3 =>
        have : ((srcM d).shifts.length + 1) * istr.bytes ≤ 13 * 1000 := Nat.mul_le_mul (by omega) hbystr
        omega
      case c4 => simp; omega
      intro v9 wb hown hgrow _
      have ha : Below w5.heap.size w5 (w5.alloc (.cells #[.string ⟨#[]⟩] 9)) := (Below.refl _ _).alloc (Nat.le_refl _) _
      have hS := HS4.out.sb.below ha
      have hb9 := blk_grown hS.out hgrow hS.str (by decide)
      have s3 := hb9.cell_ (i := 3) rfl
      have f3 := hb9.frozen 3
      have hbel : Below w.heap.size w wb := (HS4.out.bel.trans (ha.mono HS4.out.bel.size)).grown hgrow (by simp; omega) (own_base hS.str)
      have hP := hS.pstr hgrow (x := []) (u := v9) (by show World.ownsRow _ _ _ _ _ _ _; rw [List.length_append, flatC_snoc]; exact hown)
      obtain ⟨q9, d9, rfl⟩ := own_form hown
      have HP := Lib.hid (And.intro hP hbel)
      clear hown hgrow ha hS hb9 hbel hP HO
      go_wp2_with fail
      go_meet
      have hcu := HCU.out
      have hs := HP.out.1.src
      exact ⟨_, _, _, _, _, _, HP.out.1.out, by rw [hcu] at hs; exact hs, HP.out.2.setCell HS4.out.gsl _, bad_shift d (by decide +kernel) (by decide)⟩
    · have e0 : ((n : Int) % 10 == 0) = false := by rw [beq_eq_false_iff_ne]; omega
      have e1 : ((n : Int) % 10 == 1) = false := by rw [beq_eq_false_iff_ne]; omega
      have e2 : ((n : Int) % 10 == 2) = false := by rw [beq_eq_false_iff_ne]; omega
      have e3 : ((n : Int) % 10 == 3) = false := by rw [beq_eq_false_iff_ne]; omega
      have e4 : ((n : Int) % 10 == 4) = false := by rw [beq_eq_false_iff_ne]; omega
      have e5 : ((n : Int) % 10 == 5) = false := by rw [beq_eq_false_iff_ne]; omega
      have e6 : ((n : Int) % 10 == 6) = false := by rw [beq_eq_false_iff_ne]; omega
      have e7 : ((n : Int) % 10 == 7) = false := by rw [beq_eq_false_iff_ne]; omega
      have e8 : ((n : Int) % 10 == 8) = false := by rw [beq_eq_false_iff_ne]; omega
      clear hvv
      have s1 := HS4.out.sb.out.cell_ (i := 1) rfl
      have hsz := HS4.out.bel.size
      have kz := srcM_small d
      have kcu : cur.length ≤ 6 := by have h := kz.2.1; rw [← HCU.out, List.length_map] at h; exact h
      have g0 : w5.cell? ⟨ge, 0, none⟩ = some (.int .i64 0) := HS4.out.era.cell_ rfl
      have g1 : w5.cell? ⟨ge, 1, none⟩ = some (.int .i64 0) := HS4.out.era.cell_ rfl
      have g2 : w5.cell? ⟨ge, 2, none⟩ = some (.int .i64 0) := HS4.out.era.cell_ rfl
      have g3 : w5.cell? ⟨ge, 3, none⟩ = some (.string ⟨#[]⟩) := HS4.out.era.cell_ rfl
      have g4 : w5.cell? ⟨ge, 4, none⟩ = some (.string ⟨#[71, 77, 84]⟩) := HS4.out.era.cell_ rfl
      have g5 : w5.cell? ⟨ge, 5, none⟩ = some (.bool false) := HS4.out.era.cell_ rfl
      have g6 : w5.cell? ⟨ge, 6, none⟩ = some (.int .i64 0) := HS4.out.era.cell_ rfl
      have g7 : w5.cell? ⟨ge, 7, none⟩ = some (.int .i64 0) := HS4.out.era.cell_ rfl
      have g8 : w5.cell? ⟨ge, 8, none⟩ = some (.int .i64 0) := HS4.out.era.cell_ rfl
      have g9 : w5.cell? ⟨ge, 9, none⟩ = some (.int .i64 0) := HS4.out.era.cell_ rfl
      have g10 : w5.cell? ⟨ge, 10, none⟩ = some (.int .i64 0) := HS4.out.era.cell_ rfl
      have g11 : w5.cell? ⟨ge, 11, none⟩ = some (.int .i64 0) := HS4.out.era.cell_ rfl
      have g12 : w5.cell? ⟨ge, 12, none⟩ = some (.int .i64 0) := HS4.out.era.cell_ rfl
      have h0 : w5.cell? ⟨gd, 0, none⟩ = some (.int .i64 0) := HS4.out.en.cell_ rfl
      have h1 : w5.cell? ⟨gd, 1, none⟩ = some (.int .i64 0) := HS4.out.en.cell_ rfl
      have h2 : w5.cell? ⟨gd, 2, none⟩ = some (.int .i64 0) := HS4.out.en.cell_ rfl
      have h3 : w5.cell? ⟨gd, 3, none⟩ = some (.string ⟨#[]⟩) := HS4.out.en.cell_ rfl
      have h4 : w5.cell? ⟨gd, 4, none⟩ = some (.string ⟨#[71, 77, 84]⟩) := HS4.out.en.cell_ rfl
      have h5 : w5.cell? ⟨gd, 5, none⟩ = some (.bool true) := HS4.out.en.cell_ rfl
      have h6 : w5.cell? ⟨gd, 6, none⟩ = some (.int .i64 1850) := HS4.out.en.cell_ rfl
      have h7 : w5.cell? ⟨gd, 7, none⟩ = some (.int .i64 1) := HS4.out.en.cell_ rfl
      have h8 : w5.cell? ⟨gd, 8, none⟩ = some (.int .i64 1) := HS4.out.en.cell_ rfl
      have h9 : w5.cell? ⟨gd, 9, none⟩ = some (.int .i64 0) := HS4.out.en.cell_ rfl
      have h10 : w5.cell? ⟨gd, 10, none⟩ = some (.int .i64 1) := HS4.out.en.cell_ rfl
      have h11 : w5.cell? ⟨gd, 11, none⟩ = some (.int .i64 0) := HS4.out.en.cell_ rfl
      have h12 : w5.cell? ⟨gd, 12, none⟩ = some (.int .i64 0) := HS4.out.en.cell_ rfl
      have HO := Lib.hid (show w5.ownsRow w.heap.size 50 2 (.slice q2 cur.length d2) cur.length (flatC encZV cur) from HS4.out.sb.zone)
      have hnn : cur.length ≤ 12 := by omega
      clear kz kcu
      go_wp2_with (first | (at_builtin; refine wpList_append_any _ rfl (.tmp 18) (.tmp 25) 23 rfl w.heap.size 50 izone zzone 2 izone.bytes Tryz.underlying23 hizone hzzone hszzone rfl hzczone (by decide) _ _ _ rfl ((HO.out.alloc _).alloc _) ((w5.heap.size + 1) + 1) (some ⟨(w5.heap.size + 1), 0, none⟩) 1 1 [.string ⟨#[65]⟩, .slice (some ⟨w5.heap.size, 0, none⟩) 4 4] rfl ?c0 ?c1 ?c2 ?c3 ?c4 ?_) | fail)
      case c0 => exact ⟨rfl, fun _ => ⟨_, rfl, by simp, fun j u hu => by rw [Addr.add_lit, Nat.zero_add]; exact (show Blk ((w5.alloc (.cells #[.int .i64 0, .int .i64 0, .int .i64 0, .string ⟨#[]⟩, .string ⟨#[71, 77, 84]⟩, .bool true, .int .i64 1850, .int .i64 1, .int .i64 1, .int .i64 0, .int .i64 1, .int .i64 0, .int .i64 0, .int .i64 0, .int .i64 0, .int .i64 0, .string ⟨#[]⟩, .string ⟨#[71, 77, 84]⟩, .bool true, .int .i64 1850, .int .i64 1, .int .i64 1, .int .i64 0, .int .i64 1, .int .i64 0, .int .i64 0, .int .i64 0, .int .i64 0, .int .i64 0, .string ⟨#[]⟩, .string ⟨#[71, 77, 84]⟩, .bool false, .int .i64 0, .int .i64 0, .int .i64 0, .int .i64 0, .int .i64 0, .int .i64 0, .int .i64 0, .int .i64 0, .int .i64 0, .int .i64 0, .string ⟨#[]⟩, .string ⟨#[71, 77, 84]⟩, .bool false, .int .i64 0, .int .i64 0, .int .i64 0, .int .i64 0, .int .i64 0, .int .i64 0, .int .i64 0] 55)).alloc (.cells #[.string ⟨#[65]⟩, .slice (some ⟨w5.heap.size, 0, none⟩) 4 4] 50)) (w5.heap.size + 1) 50 #[.string ⟨#[65]⟩, .slice (some ⟨w5.heap.size, 0, none⟩) 4 4] from Blk.new' _ _ _ (by simp)).cell_ (by simpa using hu)⟩⟩
      case c1 => intro u hu; simp only [List.mem_cons, List.not_mem_nil, or_false] at hu; rcases hu with rfl | rfl <;> rfl
      case c2 => unfold maxLen; omega
      case c3 =>
        have : (cur.length + 1) * izone.bytes ≤ 13 * 1000 := Nat.mul_le_mul (by omega) hbyzone
        omega
      case c4 => simp; omega
      intro v9 wb hown hgrow _
      have ha : Below w5.heap.size w5 ((w5.alloc (.cells #[.int .i64 0, .int .i64 0, .int .i64 0, .string ⟨#[]⟩, .string ⟨#[71, 77, 84]⟩, .bool true, .int .i64 1850, .int .i64 1, .int .i64 1, .int .i64 0, .int .i64 1, .int .i64 0, .int .i64 0, .int .i64 0, .int .i64 0, .int .i64 0, .string ⟨#[]⟩, .string ⟨#[71, 77, 84]⟩, .bool true, .int .i64 1850, .int .i64 1, .int .i64 1, .int .i64 0, .int .i64 1, .int .i64 0, .int .i64 0, .int .i64 0, .int .i64 0, .int .i64 0, .string ⟨#[]⟩, .string ⟨#[71, 77, 84]⟩, .bool false, .int .i64 0, .int .i64 0, .int .i64 0, .int .i64 0, .int .i64 0, .int .i64 0, .int .i64 0, .int .i64 0, .int .i64 0, .int .i64 0, .string ⟨#[]⟩, .string ⟨#[71, 77, 84]⟩, .bool false, .int .i64 0, .int .i64 0, .int .i64 0, .int .i64 0, .int .i64 0, .int .i64 0, .int .i64 0] 55)).alloc (.cells #[.string ⟨#[65]⟩, .slice (some ⟨w5.heap.size, 0, none⟩) 4 4] 50)) := ((Below.refl _ _).alloc (Nat.le_refl _) _).alloc (by simp) _
      have hS := HS4.out.sb.below ha
      have hb9 := blk_grown hS.out hgrow hS.zone (by decide)
      have s1 := hb9.cell_ (i := 1) rfl
      have f1 := hb9.frozen 1
      have hbel : Below w.heap.size w wb := (HS4.out.bel.trans (ha.mono HS4.out.bel.size)).grown hgrow (by simp; omega) (own_base hS.zone)
      have hE0 : (w5.alloc (.cells #[.int .i64 0, .int .i64 0, .int .i64 0, .string ⟨#[]⟩, .string ⟨#[71, 77, 84]⟩, .bool true, .int .i64 1850, .int .i64 1, .int .i64 1, .int .i64 0, .int .i64 1, .int .i64 0, .int .i64 0, .int .i64 0, .int .i64 0, .int .i64 0, .string ⟨#[]⟩, .string ⟨#[71, 77, 84]⟩, .bool true, .int .i64 1850, .int .i64 1, .int .i64 1, .int .i64 0, .int .i64 1, .int .i64 0, .int .i64 0, .int .i64 0, .int .i64 0, .int .i64 0, .string ⟨#[]⟩, .string ⟨#[71, 77, 84]⟩, .bool false, .int .i64 0, .int .i64 0, .int .i64 0, .int .i64 0, .int .i64 0, .int .i64 0, .int .i64 0, .int .i64 0, .int .i64 0, .int .i64 0, .string ⟨#[]⟩, .string ⟨#[71, 77, 84]⟩, .bool false, .int .i64 0, .int .i64 0, .int .i64 0, .int .i64 0, .int .i64 0, .int .i64 0, .int .i64 0] 55)).ownsRow w.heap.size 55 13 (.slice (some ⟨w5.heap.size, 0, none⟩) 4 4) 4 (flatC EraP.cells [endM, endM, eraG [71, 77, 84], eraG [71, 77, 84]]) := World.ownsRow_lit w5 #[.int .i64 0, .int .i64 0, .int .i64 0, .string ⟨#[]⟩, .string ⟨#[71, 77, 84]⟩, .bool true, .int .i64 1850, .int .i64 1, .int .i64 1, .int .i64 0, .int .i64 1, .int .i64 0, .int .i64 0, .int .i64 0, .int .i64 0, .int .i64 0, .string ⟨#[]⟩, .string ⟨#[71, 77, 84]⟩, .bool true, .int .i64 1850, .int .i64 1, .int .i64 1, .int .i64 0, .int .i64 1, .int .i64 0, .int .i64 0, .int .i64 0, .int .i64 0, .int .i64 0, .string ⟨#[]⟩, .string ⟨#[71, 77, 84]⟩, .bool false, .int .i64 0, .int .i64 0, .int .i64 0, .int .i64 0, .int .i64 0, .int .i64 0, .int .i64 0, .int .i64 0, .int .i64 0, .int .i64 0, .string ⟨#[]⟩, .string ⟨#[71, 77, 84]⟩, .bool false, .int .i64 0, .int .i64 0, .int .i64 0, .int .i64 0, .int .i64 0, .int .i64 0, .int .i64 0] 4 (by simpa using hsz) (by decide) rfl
      have hera : EraO w.heap.size [endM, endM, eraG [71, 77, 84], eraG [71, 77, 84]] (.slice (some ⟨w5.heap.size, 0, none⟩) 4 4) wb := World.ownsRow.kept (World.ownsRow.alloc hE0 _) hgrow (own_apart (World.ownsRow.alloc hE0 _) hS.zone (by decide))
      have hP := hS.pzone hgrow (x := ⟨(⟨[65], [endM, endM, eraG [71, 77, 84], eraG [71, 77, 84]]⟩, .slice (some ⟨w5.heap.size, 0, none⟩) 4 4), some ⟨w5.heap.size, 0, none⟩, 4, rfl⟩) (u := v9) (by show World.ownsRow _ _ _ _ _ _ _; rw [List.length_append, flatC_snoc]; exact hown) hera
      obtain ⟨q9, d9, rfl⟩ := own_form hown
      have HP := Lib.hid (And.intro hP hbel)
      clear hown hgrow ha hS hb9 hbel hP HO hera
      go_wp2_with fail
      go_meet
      have hcu := HCU.out
      have hs := HP.out.1.src
      exact ⟨_, _, _, _, _, _, HP.out.1.out, by rw [show (cur ++ [(⟨(⟨[65], [endM, endM, eraG [71, 77, 84], eraG [71, 77, 84]]⟩, .slice (some ⟨w5.heap.size, 0, none⟩) 4 4), some ⟨w5.heap.size, 0, none⟩, 4, rfl⟩ : ZV)]).map (fun q => q.1.1) = (srcM d).zones ++ [⟨[65], [endM, endM, eraG [71, 77, 84], eraG [71, 77, 84]]⟩] from by rw [List.map_append, hcu]; rfl] at hs; exact hs, HP.out.2.setCell HS4.out.gsl _, bad_zone d (x := ⟨[65], [endM, endM, eraG [71, 77, 84], eraG [71, 77, 84]]⟩) (by decide +kernel) (by unfold ZoneSz EraSz; decide) (by decide)⟩
  case rest =>
    obtain ⟨s, v1, zv, v3, v4, zs, hblk, hsrc, hbel, hbad, hsz2, hln⟩ := hcut
    obtain ⟨x1, y1, rfl⟩ := hsrc.1.slice
    obtain ⟨x2, y2, rfl⟩ := hsrc.2.1.slice
    obtain ⟨x3, y3, rfl⟩ := hsrc.2.2.2.2.1.slice
    obtain ⟨x4, y4, rfl⟩ := hsrc.2.2.2.2.2.slice
    have HB6 := Lib.hid (show Blk wc gs 27 #[.slice x1 s.rules.length y1, .slice x2 zs.length y2, .slice x3 s.links.length y3, .slice x4 s.shifts.length y4] ∧ SrcV s (.agg #[.slice x1 s.rules.length y1, .slice x2 zs.length y2, .slice x3 s.links.length y3, .slice x4 s.shifts.length y4]) wc ∧ Below w.heap.size w wc from ⟨hblk, ⟨_, _, _, _, _, rfl, hsrc⟩, hbel⟩)
    have HFA := Lib.hid (fails_any s _ 2 wc HB6.out.2.1 (HTT.out wc hbel).1 (HTT.out wc hbel).2 hsz2 hbad)
    have b0 := hblk.cell_ (i := 0) rfl
    have b1 := hblk.cell_ (i := 1) rfl
    have b2 := hblk.cell_ (i := 2) rfl
    have b3 := hblk.cell_ (i := 3) rfl
    clear hblk hsrc hbel hbad HS4 HCU
    go_wp2_with fail
    refine HFA.out.mono ?_
    rintro e w6 ⟨rfl, hb6⟩
    have HB7 := Lib.hid (show Blk w6 gs 27 #[.slice x1 s.rules.length y1, .slice x2 zs.length y2, .slice x3 s.links.length y3, .slice x4 s.shifts.length y4] ∧ SrcV s (.agg #[.slice x1 s.rules.length y1, .slice x2 zs.length y2, .slice x3 s.links.length y3, .slice x4 s.shifts.length y4]) w6 ∧ Below w.heap.size w w6 from ⟨HB6.out.1.below hb6 HB6.out.1.lt, HB6.out.2.1.below hb6, HB6.out.2.2.trans (hb6.mono HB6.out.2.2.size)⟩)
    clear hb6 b0 b1 b2 b3 HB6 HFA
    have b0 := HB7.out.1.cell_ (i := 0) rfl
    have b1 := HB7.out.1.cell_ (i := 1) rfl
    have b2 := HB7.out.1.cell_ (i := 2) rfl
    have b3 := HB7.out.1.cell_ (i := 3) rfl
    have HCO := Lib.hid (show Calls Tryz.prog 14 #[.agg #[.slice x1 s.rules.length y1, .slice x2 zs.length y2, .slice x3 s.links.length y3, .slice x4 s.shifts.length y4]] w6 fun e w' => (∃ v1 zv v3 v4 cur, e = .returned (.agg #[v1, zv, v3, v4]) ∧ cur.map (fun q : ZV => q.1.1) = s.zones ∧ SO w6.heap.size s.rules cur s.links s.shifts v1 zv v3 v4 w' ∧ EraApart cur.length cur) ∧ Below w6.heap.size w6 w' from by
      obtain ⟨r9, z9, l9, h9, zs9, e9, k9⟩ := HB7.out.2.1
      rw [e9]
      exact copy_own _ _ _ _ _ _ _ k9 hln)
    go_wp2_with fail
    refine HCO.out.mono ?_
    rintro e w7 ⟨⟨v1, zv, v3, v4, cm, rfl, hcm, hso, _⟩, hb7⟩
    obtain ⟨m1, k1, rfl⟩ := own_form hso.rule
    obtain ⟨m2, k2, rfl⟩ := own_form hso.zone
    obtain ⟨m3, k3, rfl⟩ := own_form hso.link
    obtain ⟨m4, k4, rfl⟩ := own_form hso.str
    have hB7 : Below w.heap.size w w7 := HB7.out.2.2.trans (hb7.mono HB7.out.2.2.size)
    have ha7 : Below w7.heap.size w7 (w7.alloc (.cells #[.slice m1 s.rules.length k1, .slice m2 cm.length k2, .slice m3 s.links.length k3, .slice m4 s.shifts.length k4] 27)) := (Below.refl _ _).alloc (Nat.le_refl _) _
    have HS8 := Lib.hid (show SB w.heap.size w7.heap.size s.rules cm s.links s.shifts (.slice m1 s.rules.length k1) (.slice m2 cm.length k2) (.slice m3 s.links.length k3) (.slice m4 s.shifts.length k4) (w7.alloc (.cells #[.slice m1 s.rules.length k1, .slice m2 cm.length k2, .slice m3 s.links.length k3, .slice m4 s.shifts.length k4] 27)) ∧ Below w.heap.size w (w7.alloc (.cells #[.slice m1 s.rules.length k1, .slice m2 cm.length k2, .slice m3 s.links.length k3, .slice m4 s.shifts.length k4] 27)) ∧ w.heap.size ≤ w7.heap.size from ⟨SB.of_so ((hso.below ha7).mono HB7.out.2.2.size) (Blk.new' _ _ _ rfl), hB7.trans (ha7.mono hB7.size), hB7.size⟩)
    have HCM := Lib.hid hcm
    clear hb7 hso hB7 ha7 hcm HB7 HCO b0 b1 b2 b3
    go_upto_region 29 with fail
    generalize w7.alloc (.cells #[.slice m1 s.rules.length k1, .slice m2 cm.length k2, .slice m3 s.links.length k3, .slice m4 s.shifts.length k4] 27) = w8 at *
    generalize w7.heap.size = gm at *
    have hq : (n : Int).tdiv 10 = (n : Int) / 10 := Int.tdiv_eq_ediv_of_nonneg (by omega)
    have hwq : IntKind.u8.wrap ((n : Int) / 10) = (n : Int) / 10 := IntWalk.u8_in _ (by omega)
    have hr4 : ((n : Int) / 10).tmod 4 = (n : Int) / 10 % 4 := Int.tmod_eq_emod_of_nonneg (by omega)
    go_upto_block 1 with fail
    go_cut [] (fun wx => ManyS w gm wx)
    case first =>
      have hzzlink : ilink.zero = some (.agg (LinkP.cells ⟨[], []⟩)) := by
        have h : (Tryz.prog.info? 58).bind (fun i => i.zero) = some (.agg (LinkP.cells ⟨[], []⟩)) := by kernel_rfl
        rw [hilink] at h
        exact h
      have hzzzone : izone.zero = some (.agg (encZV zoneZ)) := by
        have h : (Tryz.prog.info? 50).bind (fun i => i.zero) = some (.agg (encZV zoneZ)) := by kernel_rfl
        rw [hizone] at h
        exact h
      have hzzstr : istr.zero = some (.string ⟨#[]⟩) := by
        have h : (Tryz.prog.info? 9).bind (fun i => i.zero) = some (.string ⟨#[]⟩) := by kernel_rfl
        rw [histr] at h
        exact h
      rcases (by omega : n / 10 % 4 = 0 ∨ n / 10 % 4 = 1 ∨ n / 10 % 4 = 2 ∨ n / 10 % 4 = 3) with hvv | hvv | hvv | hvv
      · have e0 : ((n : Int) / 10 % 4 == 0) = true := by rw [beq_iff_eq]; omega
        clear hvv
        have s2 := HS8.out.1.out.cell_ (i := 2) rfl
        have hszm := HS8.out.2.1.size
        go_wp2_with (first | (refine wpList_make_full _ rfl (.const (.int .i64 1001)) (.const (.int .i64 1001)) 24 rfl w.heap.size 58 ilink (.agg (LinkP.cells ⟨[], []⟩)) 2 Tryz.underlying24 hilink hzzlink hszlink .i64 .i64 1001 1001 1001 rfl rfl rfl rfl ?b2 (by decide) hszm ?_) | fail)
        case b2 => omega
        intro wb hown hgrow
        have hown : wb.ownsRow w.heap.size 58 2 (.slice (some ⟨w8.heap.size, 0, none⟩) 1001 1001) 1001 (flatC LinkP.cells (List.replicate 1001 (⟨[], []⟩ : LinkP))) := by rw [← made_flat LinkP.cells (by decide) (fun x => (link_cells x).1) (⟨[], []⟩ : LinkP) 1001]; exact hown
        have ha : Below w8.heap.size w8 wb := ⟨hgrow.os, hgrow.tape, hgrow.output, hgrow.size, fun j hj => hgrow.block j hj (by simp)⟩
        have hS := HS8.out.1.below ha
        have hout := hS.out
        have s2 := hout.cell_ (i := 2) rfl
        have f2 := hout.frozen 2
        have hP : SB w.heap.size gm s.rules cm (List.replicate 1001 (⟨[], []⟩ : LinkP)) s.shifts (.slice m1 s.rules.length k1) (.slice m2 cm.length k2) (.slice (some ⟨w8.heap.size, 0, none⟩) 1001 1001) (.slice m4 s.shifts.length k4) (wb.setCell ⟨gm, 2, none⟩ (.slice (some ⟨w8.heap.size, 0, none⟩) 1001 1001)) := ⟨hout.set_ 2 _, own_farT hS.rule hout (by decide) _, own_farT hS.zone hout (by decide) _, own_farT (by show World.ownsRow _ _ _ _ _ _ _; rw [List.length_replicate]; exact hown) hout (by decide) _, own_farT hS.str hout (by decide) _, fun q hq => own_farT (hS.eras q hq) hout (by decide) _⟩
        have HP := Lib.hid (And.intro hP (HS8.out.2.1.trans (ha.mono hszm)))
        clear hown hgrow ha hS hout hP
        go_wp2_with fail
        go_meet
        have hs := HP.out.1.src
        exact ⟨_, _, _, _, _, _, HP.out.1.out, hs, HP.out.2.setCell HS8.out.2.2 _, many_yes (by simp [manyB]), ⟨hsz2.rules, by rw [HCM.out]; exact hsz2.zones, mem_rep ⟨by decide, by decide⟩, hsz2.shifts⟩⟩
      · have e0 : ((n : Int) / 10 % 4 == 0) = false := by rw [beq_eq_false_iff_ne]; omega
        have e1 : ((n : Int) / 10 % 4 == 1) = true := by rw [beq_iff_eq]; omega
        clear hvv
        obtain ⟨L, hL⟩ : ∃ L, w8.heap.size = L := ⟨_, rfl⟩
        have HLL := Lib.hid (show Low L (.slice m2 cm.length k2) from by rw [← hL]; exact low_of HS8.out.1.zone)
        have HCL := Lib.hid (show cm.length ≤ 1048576 from by have h := hln.zones; rw [← HCM.out, List.length_map] at h; exact h)
        go_upto_region 34 with fail
        refine wp_region_relsG 7 [[], [], [], [2], [3], [4], []] [Form.val, Form.val, Form.rel (EraO L ES), Form.rel (ZN L), Form.rel (ZR L), Form.rel (ZP w.heap.size L cm), Form.val] (fun W => SB w.heap.size gm s.rules cm s.links s.shifts (.slice m1 s.rules.length k1) (.slice m2 cm.length k2) (.slice m3 s.links.length k3) (.slice m4 s.shifts.length k4) W ∧ Below w.heap.size w W ∧ L ≤ W.heap.size) (GZone w.heap.size cm (.slice m2 cm.length k2)) 5 (by kernel_rfl) (by kernel_rfl) rfl rfl (⟨HS8.out.1.below (Below.refl _ _).drew, HS8.out.2.1.drew, by rw [← hL]; exact Nat.le_refl _⟩) GOwn.of_below (fun W W2 h => h.1.size) (fun W W2 k h => ⟨k.1.gzone h, k.2.1.grown h.1 k.2.1.size (own_base k.1.zone), Nat.le_trans k.2.2 h.1.size⟩) ⟨lastsG_own HLL.out, lastsG_zn HLL.out, lastsG_zr HLL.out, ZP.last _ _ _, trivial⟩ ?_
        repeat (first | apply exSpec_rel | apply exSpec_new | apply exSpec_val)
        apply relWalkR_ex rfl rfl ?oz0 (fun K hK => ?nz0)
        case oz0 =>
          intro W hC hF
          have s1 := hC.1.out.cell_ (i := 1) rfl
          go_simp
          all_goals first | exact ⟨Below.refl _ _, rfl⟩ | exact Below.refl _ _
        case' nz0 =>
          go_simp
          refine hK _ ?_
          clear hK K
        apply relWalkR_ex rfl rfl ?oz1 (fun K hK => ?nz1)
        case oz1 =>
          intro W hC hF
          have s1 := hC.1.out.cell_ (i := 1) rfl
          go_simp
          all_goals first | exact ⟨Below.refl _ _, rfl⟩ | exact Below.refl _ _
        case' nz1 =>
          go_simp
          refine hK _ ?_
          clear hK K
        apply relWalkR_rel rfl rfl ?oz2 (fun u2 K hK => ?nz2)
        case oz2 =>
          intro W hC hF
          exact relAt_make61 W L rfl hC.2.2
        case' nz2 =>
          go_simp
          refine hK _ ?_
          clear hK K
        apply relWalkR_rel rfl rfl ?oz3 (fun u3 K hK => ?nz3)
        case oz3 =>
          intro W hC hF
          obtain ⟨h2, -⟩ := hF
          obtain ⟨p15, d15, rfl⟩ := own_form h2
          have HA := Lib.hid h2
          clear h2
          go_simp
          exact ⟨Below.refl _ _, _, rfl, HA.out⟩
        case' nz3 =>
          go_simp
          refine hK _ ?_
          clear hK K
        apply relWalkR_rel rfl rfl ?oz4 (fun u4 K hK => ?nz4)
        case oz4 =>
          intro W hC hF
          obtain ⟨⟨v, rfl, h3⟩, -⟩ := hF
          obtain ⟨p15, d15, rfl⟩ := own_form h3
          have HA := Lib.hid h3
          clear h3
          go_simp
          exact ⟨(Below.refl _ _).alloc (Nat.le_refl _) _, _, ⟨_, rfl, Blk.new' _ _ _ rfl, hC.2.2⟩, World.ownsRow.alloc HA.out _⟩
        case' nz4 =>
          go_simp
          refine hK _ ?_
          clear hK K
        apply relWalkR_wr rfl rfl ?oz5 (fun u5 K hK => ?nz5)
        case oz5 =>
          intro W hC hF
          obtain ⟨⟨v, ⟨g1, rfl, hb1, hg1⟩, h17⟩, -⟩ := hF
          obtain ⟨p17, d17, rfl⟩ := own_form h17
          refine relAtR_push rfl w.heap.size izone zzone 2 Tryz.underlying23 hizone hzzone hszzone hbyzone hzczone (by decide) (.slice m2 cm.length k2) cm.length (flatC encZV cm) rfl hC.1.zone g1 1 #[.string ⟨#[]⟩, .slice p17 ES.length d17] rfl hb1 rfl (by simp [Value.oneCell']) HCL.out hC.2.1.size (fun v' w' hown hG => ?_)
          refine ⟨⟨(⟨[], ES⟩, .slice p17 ES.length d17), p17, d17, rfl⟩, rfl, ?_, lastsG_own HLL.out _ _ _ hG h17⟩
          show World.ownsRow _ _ _ _ _ _ _
          rw [List.length_append, flatC_snoc]
          exact hown
        case' nz5 =>
          go_simp
          refine hK _ ?_
          clear hK K
        apply relWalkR_ex rfl rfl ?oz6 (fun K hK => ?nz6)
        case oz6 =>
          intro W hC hF
          have s1 := hC.1.out.cell_ (i := 1) rfl
          go_simp
          all_goals first | exact ⟨Below.refl _ _, rfl⟩ | exact Below.refl _ _
        case' nz6 =>
          go_simp
          refine hK _ ?_
          clear hK K
        apply relWalkR_end
        intro W hC hF hU
        obtain ⟨⟨x', hx', hz1, hz2⟩, -⟩ := hF
        have HP := Lib.hid (And.intro (hC.1.szone hz1 (by rw [hx']; exact own_mono hz2 (by rw [← hL]; exact HS8.out.2.1.size))) (And.intro hC.2.1 hx'))
        have s1 := hC.1.out.cell_ (i := 1) rfl
        have f1 := hC.1.out.frozen 1
        obtain ⟨q9, d9, rfl⟩ := own_form hz1
        clear hU hC hz1 hz2 hx' HLL hL HCL
        go_wp2_with fail
        go_meet
        have hs := HP.out.1.src
        rw [show (cm ++ [x']).map (fun q => q.1.1) = s.zones ++ [⟨[], ES⟩] from by rw [List.map_append, HCM.out, ← HP.out.2.2]; rfl] at hs
        have hbl := HP.out.2.1.setCell (p := ⟨gm, 1, none⟩) HS8.out.2.2 (.slice q9 (cm ++ [x']).length d9)
        have hou := HP.out.1.out
        rw [show (cm ++ [x']).length = cm.length + 1 from by simp] at hs hbl hou
        exact ⟨_, _, _, _, _, _, hou, hs, hbl, many_yes (by unfold manyB; rw [Bool.or_eq_true]; exact .inr (List.any_eq_true.2 ⟨⟨[], ES⟩, List.mem_append_right _ (List.mem_singleton.2 rfl), by simp [es_len]⟩)), ⟨hsz2.rules, mem_snoc hsz2.zones es_sz, hsz2.links, hsz2.shifts⟩⟩
      · have e0 : ((n : Int) / 10 % 4 == 0) = false := by rw [beq_eq_false_iff_ne]; omega
        have e1 : ((n : Int) / 10 % 4 == 1) = false := by rw [beq_eq_false_iff_ne]; omega
        have e2 : ((n : Int) / 10 % 4 == 2) = true := by rw [beq_iff_eq]; omega
        clear hvv
        have s1 := HS8.out.1.out.cell_ (i := 1) rfl
        have hszm := HS8.out.2.1.size
        go_wp2_with (first | (refine wpList_make_full _ rfl (.const (.int .i64 501)) (.const (.int .i64 501)) 23 rfl w.heap.size 50 izone (.agg (encZV zoneZ)) 2 Tryz.underlying23 hizone hzzzone hszzone .i64 .i64 501 501 501 rfl rfl rfl rfl ?b2 (by decide) hszm ?_) | fail)
        case b2 => omega
        intro wb hown hgrow
        have hown : wb.ownsRow w.heap.size 50 2 (.slice (some ⟨w8.heap.size, 0, none⟩) 501 501) 501 (flatC encZV (List.replicate 501 zoneZ)) := by rw [← made_flat encZV (by decide) (fun x => (zone_cells x).1) zoneZ 501]; exact hown
        have ha : Below w8.heap.size w8 wb := ⟨hgrow.os, hgrow.tape, hgrow.output, hgrow.size, fun j hj => hgrow.block j hj (by simp)⟩
        have hS := HS8.out.1.below ha
        have hout := hS.out
        have s1 := hout.cell_ (i := 1) rfl
        have f1 := hout.frozen 1
        have hP : SB w.heap.size gm s.rules (List.replicate 501 zoneZ) s.links s.shifts (.slice m1 s.rules.length k1) (.slice (some ⟨w8.heap.size, 0, none⟩) 501 501) (.slice m3 s.links.length k3) (.slice m4 s.shifts.length k4) (wb.setCell ⟨gm, 1, none⟩ (.slice (some ⟨w8.heap.size, 0, none⟩) 501 501)) := ⟨hout.set_ 1 _, own_farT hS.rule hout (by decide) _, own_farT (by show World.ownsRow _ _ _ _ _ _ _; rw [List.length_replicate]; exact hown) hout (by decide) _, own_farT hS.link hout (by decide) _, own_farT hS.str hout (by decide) _, fun q hq => by rw [List.eq_of_mem_replicate hq]; exact World.ownsRow_nil ..⟩
        have HP := Lib.hid (And.intro hP (HS8.out.2.1.trans (ha.mono hszm)))
        clear hown hgrow ha hS hout hP
        go_wp2_with fail
        go_meet
        have hs := HP.out.1.src
        exact ⟨_, _, _, _, _, _, HP.out.1.out, hs, HP.out.2.setCell HS8.out.2.2 _, many_yes (by simp [manyB]), ⟨hsz2.rules, fun z hz => by obtain ⟨y, hy, rfl⟩ := List.mem_map.1 hz; rw [List.eq_of_mem_replicate hy]; exact ⟨by decide, fun e he => absurd he List.not_mem_nil⟩, hsz2.links, hsz2.shifts⟩⟩
      · have e0 : ((n : Int) / 10 % 4 == 0) = false := by rw [beq_eq_false_iff_ne]; omega
        have e1 : ((n : Int) / 10 % 4 == 1) = false := by rw [beq_eq_false_iff_ne]; omega
        have e2 : ((n : Int) / 10 % 4 == 2) = false := by rw [beq_eq_false_iff_ne]; omega
        clear hvv
        have s3 := HS8.out.1.out.cell_ (i := 3) rfl
        have hszm := HS8.out.2.1.size
        go_wp2_with (first | (refine wpList_make_full _ rfl (.const (.int .i64 2001)) (.const (.int .i64 2001)) 25 rfl w.heap.size 9 istr (.string ⟨#[]⟩) 1 Tryz.underlying25 histr hzzstr hszstr .i64 .i64 2001 2001 2001 rfl rfl rfl rfl ?b2 (by decide) hszm ?_) | fail)
        case b2 => omega
        intro wb hown hgrow
        have hown : wb.ownsRow w.heap.size 9 1 (.slice (some ⟨w8.heap.size, 0, none⟩) 2001 2001) 2001 (flatC encS (List.replicate 2001 ([] : List UInt8))) := by rw [← made_flat encS (by decide) (fun x => rfl) ([] : List UInt8) 2001]; exact hown
        have ha : Below w8.heap.size w8 wb := ⟨hgrow.os, hgrow.tape, hgrow.output, hgrow.size, fun j hj => hgrow.block j hj (by simp)⟩
        have hS := HS8.out.1.below ha
        have hout := hS.out
        have s3 := hout.cell_ (i := 3) rfl
        have f3 := hout.frozen 3
        have hP : SB w.heap.size gm s.rules cm s.links (List.replicate 2001 ([] : List UInt8)) (.slice m1 s.rules.length k1) (.slice m2 cm.length k2) (.slice m3 s.links.length k3) (.slice (some ⟨w8.heap.size, 0, none⟩) 2001 2001) (wb.setCell ⟨gm, 3, none⟩ (.slice (some ⟨w8.heap.size, 0, none⟩) 2001 2001)) := ⟨hout.set_ 3 _, own_farT hS.rule hout (by decide) _, own_farT hS.zone hout (by decide) _, own_farT hS.link hout (by decide) _, own_farT (by show World.ownsRow _ _ _ _ _ _ _; rw [List.length_replicate]; exact hown) hout (by decide) _, fun q hq => own_farT (hS.eras q hq) hout (by decide) _⟩
        have HP := Lib.hid (And.intro hP (HS8.out.2.1.trans (ha.mono hszm)))
        clear hown hgrow ha hS hout hP
        go_wp2_with fail
        go_meet
        have hs := HP.out.1.src
        exact ⟨_, _, _, _, _, _, HP.out.1.out, hs, HP.out.2.setCell HS8.out.2.2 _, many_yes (by simp [manyB]), ⟨hsz2.rules, by rw [HCM.out]; exact hsz2.zones, hsz2.links, mem_rep (by decide)⟩⟩
    case rest =>
      obtain ⟨s9, v1, zv, v3, v4, zs9, hblk, hsrc, hbel, hbad, hsz9⟩ := hcut
      obtain ⟨x5, y5, rfl⟩ := hsrc.1.slice
      obtain ⟨x6, y6, rfl⟩ := hsrc.2.1.slice
      obtain ⟨x7, y7, rfl⟩ := hsrc.2.2.2.2.1.slice
      obtain ⟨x8, y8, rfl⟩ := hsrc.2.2.2.2.2.slice
      have HFA := Lib.hid (fails_any s9 _ 7 wc ⟨_, _, _, _, _, rfl, hsrc⟩ (HTT.out wc hbel).1 (HTT.out wc hbel).2 hsz9 hbad)
      have HBL := Lib.hid hbel
      have b0 := hblk.cell_ (i := 0) rfl
      have b1 := hblk.cell_ (i := 1) rfl
      have b2 := hblk.cell_ (i := 2) rfl
      have b3 := hblk.cell_ (i := 3) rfl
      clear hblk hsrc hbel hbad
      go_wp2_with fail
      refine HFA.out.mono ?_
      rintro e w9 ⟨rfl, hb9⟩
      have HB9 := Lib.hid (HBL.out.trans (hb9.mono HBL.out.size))
      clear hb9 b0 b1 b2 b3 HFA
      go_wp2_with fail
      refine (pworks_any _ (HTT.out _ HB9.out).1 (HTT.out _ HB9.out).2).mono ?_
      rintro e w10 ⟨rfl, hb10⟩
      have HBA := Lib.hid (HB9.out.trans (hb10.mono HB9.out.size))
      clear hb10
      go_wp2_with fail
      go_ret
      exact ⟨rfl, HBA.out⟩
end Go.Proofs.YtmcgbjjcpcgcfaaGreatDoor
