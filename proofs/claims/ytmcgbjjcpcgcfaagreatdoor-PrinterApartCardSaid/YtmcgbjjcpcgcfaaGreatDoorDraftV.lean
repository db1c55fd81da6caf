/-
  Drafts of layer 14 that are there; the sources that they make.
-/
import Derived.Test.YtmcgbjjcpcgcfaaGreatDoorMadeOk
set_option linter.unusedVariables false
set_option linter.unusedSimpArgs false
namespace Go.Proofs.YtmcgbjjcpcgcfaaGreatDoor
open Go.RowKit Go.Shelf

/-- the made source, its rows the call's own -/
def SOV (B : Nat) (s : SourceP) (u : Value) (W : World) : Prop := ∃ v1 zv v3 v4 cur, u = .agg #[v1, zv, v3, v4] ∧ cur.map (fun q : ZV => q.1.1) = s.zones ∧ SO B s.rules cur s.links s.shifts v1 zv v3 v4 W
section
variable {B : Nat} {rs : List RuleP} {cur : List ZV} {ls : List LinkP} {ss : List (List UInt8)} {v1 zv v3 v4 : Value} {w W W' : World}
theorem SO.below (h : SO B rs cur ls ss v1 zv v3 v4 W) (hb : Below W.heap.size W W') : SO B rs cur ls ss v1 zv v3 v4 W' := ⟨h.rule.kept_ hb, h.zone.kept_ hb, h.link.kept_ hb, h.str.kept_ hb, fun q hq => (h.eras q hq).kept_ hb⟩
theorem SO.mono {B' : Nat} (h : SO B rs cur ls ss v1 zv v3 v4 W) (hB : B' ≤ B) : SO B' rs cur ls ss v1 zv v3 v4 W := ⟨own_mono h.rule hB, own_mono h.zone hB, own_mono h.link hB, own_mono h.str hB, fun q hq => own_mono (h.eras q hq) hB⟩
theorem SO.far (h : SO B rs cur ls ss v1 zv v3 v4 W) {q j : Nat} {C : Array Value} (hq : Blk W q 27 C) (u : Value) : SO B rs cur ls ss v1 zv v3 v4 (W.setCell ⟨q, j, none⟩ u) := ⟨own_farT h.rule hq (by decide) _, own_farT h.zone hq (by decide) _, own_farT h.link hq (by decide) _, own_farT h.str hq (by decide) _, fun q' hq' => own_farT (h.eras q' hq') hq (by decide) _⟩
theorem SOV.last (B : Nat) (s : SourceP) : Lasts (SOV B s) := fun _ _ _ hb ⟨v1, zv, v3, v4, cur, e, h1, h2⟩ => ⟨v1, zv, v3, v4, cur, e, h1, h2.below hb⟩
end
/-- a draft that is there -/
def DraftV (d : DraftP) (v : Value) (W : World) : Prop := DraftOk d ∧ ∃ r z e l h, v = .agg #[r, z, e, l, h] ∧ DraftIs W W.heap.size r z e l h d
theorem DraftV.below {d : DraftP} {v : Value} {W W' : World} (h : DraftV d v W) (hb : Below W.heap.size W W') : DraftV d v W' := by
  obtain ⟨ho, r, z, e, l, h', rfl, k⟩ := h
  exact ⟨ho, r, z, e, l, h', rfl, (k.below hb).mono hb.size⟩
theorem made14_src {d : DraftP} {v : Value} {W : World} (h : DraftV d v W) {B : Nat} (hB : B ≤ W.heap.size) : Calls Tryz.prog 16 #[v] W fun e w' => (∃ u, e = .returned u ∧ SOV B (srcM d) u w') ∧ Below W.heap.size W w' := by
  obtain ⟨ho, r, z, e, l, h', rfl, k⟩ := h
  refine (made14_any _ _ _ _ _ _ _ k ho).mono ?_
  rintro e w' ⟨⟨v1, zv, v3, v4, cur, rfl, h1, h2⟩, hb⟩
  exact ⟨⟨_, rfl, v1, zv, v3, v4, cur, rfl, h1, h2.mono hB⟩, hb⟩
theorem draft_slices {d : DraftP} {v : Value} {W : World} (h : DraftV d v W) : ∃ p1 n1 c1 p2 n2 c2 p3 n3 c3 p4 n4 c4 p5 n5 c5, v = .agg #[.slice p1 n1 c1, .slice p2 n2 c2, .slice p3 n3 c3, .slice p4 n4 c4, .slice p5 n5 c5] := by
  obtain ⟨ho, r, z, e, l, h', rfl, k⟩ := h
  obtain ⟨p1, c1, rfl, _⟩ := k.rules
  obtain ⟨p2, c2, rfl, _⟩ := k.zones
  obtain ⟨p3, c3, rfl, _⟩ := k.eras
  obtain ⟨p4, c4, rfl, _⟩ := k.links
  obtain ⟨p5, c5, rfl, _⟩ := k.shifts
  exact ⟨_, _, _, _, _, _, _, _, _, _, _, _, _, _, _, rfl⟩
end Go.Proofs.YtmcgbjjcpcgcfaaGreatDoor
