/-
  PrinterRefuses of the law of layer 14: what the call returns.
-/
import Derived.Test.YtmcgbjjcpcgcfaaGreatDoorCopyOwn
import Derived.Deep.CutBlock
set_option linter.unusedVariables false
set_option linter.unusedSimpArgs false
namespace Go.Proofs.YtmcgbjjcpcgcfaaGreatDoor
open Go.RowKit Go.Shelf

def eraG (f : List UInt8) : EraP := ⟨0, 0, 0, [], f, UntilP.none⟩
def endM : EraP := ⟨0, 0, 0, [], [71, 77, 84], ⟨true, 1850, 1, (1, 0, 1), (0, 0)⟩⟩
theorem SB.of_so {B g : Nat} {rs : List RuleP} {cur : List ZV} {ls : List LinkP} {ss : List (List UInt8)} {v1 zv v3 v4 : Value} {W : World} (h : SO B rs cur ls ss v1 zv v3 v4 W) (hb : Blk W g 27 #[v1, zv, v3, v4]) : SB B g rs cur ls ss v1 zv v3 v4 W := ⟨hb, h.rule, h.zone, h.link, h.str, h.eras⟩
theorem SB.prule {B g : Nat} {rs : List RuleP} {cur : List ZV} {ls : List LinkP} {ss : List (List UInt8)} {v1 zv v3 v4 : Value} {W W' : World} (h : SB B g rs cur ls ss v1 zv v3 v4 W) (hg : W.grownBy W' v1.ownBlock) {x : RuleP} {u : Value} (hu : RuleO B (rs ++ [x]) u W') : SB B g (rs ++ [x]) cur ls ss u zv v3 v4 (W'.setCell ⟨g, 0, none⟩ u) := by
  have hout := blk_grown h.out hg h.rule (by decide)
  exact ⟨hout.set_ 0 u, own_farT hu hout (by decide) _, own_farT (h.zone.kept hg (own_apart h.zone h.rule (by decide))) hout (by decide) _, own_farT (h.link.kept hg (own_apart h.link h.rule (by decide))) hout (by decide) _, own_farT (h.str.kept hg (own_apart h.str h.rule (by decide))) hout (by decide) _, fun q hq => own_farT ((h.eras q hq).kept hg (own_apart (h.eras q hq) h.rule (by decide))) hout (by decide) _⟩
theorem SB.plink {B g : Nat} {rs : List RuleP} {cur : List ZV} {ls : List LinkP} {ss : List (List UInt8)} {v1 zv v3 v4 : Value} {W W' : World} (h : SB B g rs cur ls ss v1 zv v3 v4 W) (hg : W.grownBy W' v3.ownBlock) {x : LinkP} {u : Value} (hu : LinkO B (ls ++ [x]) u W') : SB B g rs cur (ls ++ [x]) ss v1 zv u v4 (W'.setCell ⟨g, 2, none⟩ u) := by
  have hout := blk_grown h.out hg h.link (by decide)
  exact ⟨hout.set_ 2 u, own_farT (h.rule.kept hg (own_apart h.rule h.link (by decide))) hout (by decide) _, own_farT (h.zone.kept hg (own_apart h.zone h.link (by decide))) hout (by decide) _, own_farT hu hout (by decide) _, own_farT (h.str.kept hg (own_apart h.str h.link (by decide))) hout (by decide) _, fun q hq => own_farT ((h.eras q hq).kept hg (own_apart (h.eras q hq) h.link (by decide))) hout (by decide) _⟩
theorem SB.pstr {B g : Nat} {rs : List RuleP} {cur : List ZV} {ls : List LinkP} {ss : List (List UInt8)} {v1 zv v3 v4 : Value} {W W' : World} (h : SB B g rs cur ls ss v1 zv v3 v4 W) (hg : W.grownBy W' v4.ownBlock) {x : List UInt8} {u : Value} (hu : StrO B (ss ++ [x]) u W') : SB B g rs cur ls (ss ++ [x]) v1 zv v3 u (W'.setCell ⟨g, 3, none⟩ u) := by
  have hout := blk_grown h.out hg h.str (by decide)
  exact ⟨hout.set_ 3 u, own_farT (h.rule.kept hg (own_apart h.rule h.str (by decide))) hout (by decide) _, own_farT (h.zone.kept hg (own_apart h.zone h.str (by decide))) hout (by decide) _, own_farT (h.link.kept hg (own_apart h.link h.str (by decide))) hout (by decide) _, own_farT hu hout (by decide) _, fun q hq => own_farT ((h.eras q hq).kept hg (own_apart (h.eras q hq) h.str (by decide))) hout (by decide) _⟩
/-- what the law holds: the draft, the source that is made, the two eras -/
structure RS (w : World) (gs ge gd : Nat) (f : List UInt8) (rs : List RuleP) (cur : List ZV) (ls : List LinkP) (ss : List (List UInt8)) (v1 zv v3 v4 : Value) (W : World) : Prop where
  sb : SB w.heap.size gs rs cur ls ss v1 zv v3 v4 W
  era : Blk W ge 55 (eraG f).cells
  en : Blk W gd 55 endM.cells
  bel : Below w.heap.size w W
  gsl : w.heap.size ≤ gs
  gel : w.heap.size ≤ ge
  lowe : ∀ q ∈ cur, Low ge q.1.2
  ne1 : gs < ge
  ne2 : ge < gd
theorem RS.below {w W W' : World} {gs ge gd : Nat} {f : List UInt8} {rs : List RuleP} {cur : List ZV} {ls : List LinkP} {ss : List (List UInt8)} {v1 zv v3 v4 : Value} (h : RS w gs ge gd f rs cur ls ss v1 zv v3 v4 W) (hb : Below W.heap.size W W') : RS w gs ge gd f rs cur ls ss v1 zv v3 v4 W' := ⟨h.sb.below hb, h.era.below hb h.era.lt, h.en.below hb h.en.lt, h.bel.trans (hb.mono h.bel.size), h.gsl, h.gel, h.lowe, h.ne1, h.ne2⟩
theorem RS.fmt {w W : World} {gs ge gd : Nat} {f : List UInt8} {rs : List RuleP} {cur : List ZV} {ls : List LinkP} {ss : List (List UInt8)} {v1 zv v3 v4 : Value} (h : RS w gs ge gd f rs cur ls ss v1 zv v3 v4 W) (f' : List UInt8) : RS w gs ge gd f' rs cur ls ss v1 zv v3 v4 (W.setCell ⟨ge, 4, none⟩ (.string ⟨f'.toArray⟩)) := by
  have h1 := h.ne1
  have h2 := h.ne2
  exact ⟨⟨h.sb.out.far (by show gs ≠ ge; omega) _, own_farT h.sb.rule h.era (by decide) _, own_farT h.sb.zone h.era (by decide) _, own_farT h.sb.link h.era (by decide) _, own_farT h.sb.str h.era (by decide) _, fun q hq => own_farL (h.sb.eras q hq) (h.lowe q hq) (Nat.le_refl _) _⟩, h.era.set_ 4 _, h.en.far (by show gd ≠ ge; omega) _, h.bel.setCell h.gel _, h.gsl, h.gel, h.lowe, h.ne1, h.ne2⟩
theorem mem_snoc {α : Type} {p : α → Prop} {l : List α} {x : α} (h : ∀ y ∈ l, p y) (hx : p x) : ∀ y ∈ l ++ [x], p y := fun y hy => by
  rcases List.mem_append.1 hy with hy | hy
  · exact h y hy
  · rw [List.mem_singleton] at hy; subst hy; exact hx
/-- 61 eras, and a zone of them -/
def ES : List EraP := List.replicate 61 (eraG [])
def ZP (B L : Nat) (cur : List ZV) (u : Value) (W : World) : Prop := ∃ x : ZV, x.1.1 = ⟨[], ES⟩ ∧ ZoneO B (cur ++ [x]) u W ∧ EraO L ES x.1.2 W
theorem ZP.last (B L : Nat) (cur : List ZV) : Lasts (ZP B L cur) := fun _ _ _ hb ⟨x, e, h1, h2⟩ => ⟨x, e, h1.kept_ hb, h2.kept_ hb⟩
end Go.Proofs.YtmcgbjjcpcgcfaaGreatDoor
