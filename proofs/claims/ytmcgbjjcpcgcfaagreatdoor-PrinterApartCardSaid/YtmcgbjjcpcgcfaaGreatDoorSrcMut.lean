/-
  A store into the rows of a source that is made: one cell of a rule, of a link, of a zone, of the last era of a zone.
-/
import Derived.Test.YtmcgbjjcpcgcfaaGreatDoorPRefL
set_option linter.unusedVariables false
set_option linter.unusedSimpArgs false
namespace Go.Proofs.YtmcgbjjcpcgcfaaGreatDoor
open Go.RowKit Go.Shelf

theorem flatC_cons {α : Type} (enc : α → Array Value) (a : α) (l : List α) : flatC enc (a :: l) = (enc a).toList ++ flatC enc l := by simp [flatC]
theorem flatC_put {α : Type} (enc : α → Array Value) {m : Nat} (hs : ∀ x, (enc x).size = m) (u : Value) (j : Nat) (hj : j < m) : ∀ (l : List α) (k : Nat) (x y : α), l[k]? = some x → (enc y).toList = (enc x).toList.set j u → flatC enc (l.set k y) = (flatC enc l).set (k * m + j) u
  | [], _, _, _, h, _ => by simp at h
  | a :: l, 0, x, y, h, e => by
    simp only [List.getElem?_cons_zero, Option.some.injEq] at h
    subst h
    rw [List.set_cons_zero, flatC_cons, flatC_cons, e, List.set_append_left _ _ (by rw [Array.length_toList, hs]; omega), Nat.zero_mul, Nat.zero_add]
  | a :: l, k + 1, x, y, h, e => by
    have ih := flatC_put enc hs u j hj l k x y (by simpa using h) e
    have hm : (k + 1) * m = k * m + m := Nat.succ_mul k m
    rw [List.set_cons_succ, flatC_cons, flatC_cons, ih, List.set_append_right _ _ (by rw [Array.length_toList, hs, hm]; omega), Array.length_toList, hs, hm, show k * m + m + j - m = k * m + j by omega]
theorem flatC_same {α : Type} (enc : α → Array Value) : ∀ (l : List α) (k : Nat) (x y : α), l[k]? = some x → enc y = enc x → flatC enc (l.set k y) = flatC enc l
  | [], _, _, _, h, _ => by simp at h
  | a :: l, 0, x, y, h, e => by
    simp only [List.getElem?_cons_zero, Option.some.injEq] at h
    subst h
    rw [List.set_cons_zero, flatC_cons, flatC_cons, e]
  | a :: l, k + 1, x, y, h, e => by
    rw [List.set_cons_succ, flatC_cons, flatC_cons, flatC_same enc l k x y (by simpa using h) e]
theorem own_blk {W : World} {B e k n c g : Nat} {xs : List Value} (h : W.ownsRow B e k (.slice (some ⟨g, 0, none⟩) n c) n xs) : (∃ C, Blk W g e C) ∧ B ≤ g := by
  rcases h.2 with ⟨hx, _⟩ | ⟨g', cap, cur0, hx, hB, hh, _⟩
  · cases hx
  · simp only [Value.slice.injEq, Option.some.injEq, Addr.mk.injEq, and_true, true_and] at hx
    obtain ⟨rfl, rfl⟩ := hx
    exact ⟨⟨cur0, hh⟩, hB⟩
theorem own_farN {B q j k n e : Nat} {v : Value} {xs : List Value} {W : World} (h : W.ownsRow B e k v n xs) (hq : v.ownBlock ≠ some q) (u : Value) : (W.setCell ⟨q, j, none⟩ u).ownsRow B e k v n xs := by
  refine ⟨h.1, ?_⟩
  rcases h.2 with h2 | ⟨g, cap, cur, e1, hg, hh, rest⟩
  · exact .inl h2
  · refine .inr ⟨g, cap, cur, e1, hg, Blk.far (show Blk W g e cur from hh) (fun hx => hq ?_) u, rest⟩
    have hx : g = q := hx
    rw [e1, hx]
    simp [Value.ownBlock]
theorem blk_ne {W : World} {g b T T' : Nat} {C C' : Array Value} (h : Blk W g T C) (h' : Blk W b T' C') (hne : T ≠ T') : g ≠ b := fun hx => by
  subst hx
  unfold Blk at h h'
  rw [h] at h'
  simp only [Option.some.injEq, Obj.cells.injEq] at h'
  exact hne h'.2.1
theorem mem_set' {α : Type} {l : List α} {k : Nat} {x y z : α} (hx : l[k]? = some x) (hz : z ∈ l.set k y) : z = y ∨ z ∈ l := by
  rcases List.mem_or_eq_of_mem_set hz with h | h
  · exact .inr h
  · exact .inl h
section
variable {B g b c : Nat} {rs : List RuleP} {cur : List ZV} {ls : List LinkP} {ss : List (List UInt8)} {v1 zv v3 v4 : Value} {W : World}
theorem SB.mrule (h : SB B g rs cur ls ss (.slice (some ⟨b, 0, none⟩) rs.length c) zv v3 v4 W) {k j : Nat} {x y : RuleP} {u : Value} (hx : rs[k]? = some x) (hj : j < 11) (hy : y.cells.toList = x.cells.toList.set j u) :
    SB B g (rs.set k y) cur ls ss (.slice (some ⟨b, 0, none⟩) rs.length c) zv v3 v4 (W.setCell ⟨b, k * 11 + j, none⟩ u) := by
  obtain ⟨⟨C, hC⟩, hB⟩ := own_blk h.rule
  refine ⟨h.out.far (blk_ne h.out hC (by decide)) _, ?_, own_farT h.zone hC (by decide) _, own_farT h.link hC (by decide) _, own_farT h.str hC (by decide) _, fun q hq => own_farT (h.eras q hq) hC (by decide) _⟩
  show World.ownsRow _ _ _ _ _ _ _
  rw [List.length_set, flatC_put RuleP.cells (fun x => (rule_cells x).1) u j hj rs k x y hx hy]
  exact own_set u h.rule
theorem SB.mlink (h : SB B g rs cur ls ss v1 zv (.slice (some ⟨b, 0, none⟩) ls.length c) v4 W) {k j : Nat} {x y : LinkP} {u : Value} (hx : ls[k]? = some x) (hj : j < 2) (hy : y.cells.toList = x.cells.toList.set j u) :
    SB B g rs cur (ls.set k y) ss v1 zv (.slice (some ⟨b, 0, none⟩) ls.length c) v4 (W.setCell ⟨b, k * 2 + j, none⟩ u) := by
  obtain ⟨⟨C, hC⟩, hB⟩ := own_blk h.link
  refine ⟨h.out.far (blk_ne h.out hC (by decide)) _, own_farT h.rule hC (by decide) _, own_farT h.zone hC (by decide) _, ?_, own_farT h.str hC (by decide) _, fun q hq => own_farT (h.eras q hq) hC (by decide) _⟩
  show World.ownsRow _ _ _ _ _ _ _
  rw [List.length_set, flatC_put LinkP.cells (fun x => (link_cells x).1) u j hj ls k x y hx hy]
  exact own_set u h.link
theorem SB.mzone (h : SB B g rs cur ls ss v1 (.slice (some ⟨b, 0, none⟩) cur.length c) v3 v4 W) {k j : Nat} {x y : ZV} {u : Value} (hx : cur[k]? = some x) (hj : j < 2) (hy : (encZV y).toList = (encZV x).toList.set j u) (he : y.1.1.eras = x.1.1.eras) (hv : y.1.2 = x.1.2) :
    SB B g rs (cur.set k y) ls ss v1 (.slice (some ⟨b, 0, none⟩) cur.length c) v3 v4 (W.setCell ⟨b, k * 2 + j, none⟩ u) := by
  obtain ⟨⟨C, hC⟩, hB⟩ := own_blk h.zone
  refine ⟨h.out.far (blk_ne h.out hC (by decide)) _, own_farT h.rule hC (by decide) _, ?_, own_farT h.link hC (by decide) _, own_farT h.str hC (by decide) _, fun q hq => own_farT ?_ hC (by decide) _⟩
  · show World.ownsRow _ _ _ _ _ _ _
    rw [List.length_set, flatC_put encZV (fun x => (zone_cells x).1) u j hj cur k x y hx hy]
    exact own_set u h.zone
  · rcases mem_set' hx hq with rfl | hq
    · have := h.eras x (List.mem_of_getElem? hx)
      rw [← he, ← hv] at this
      exact this
    · exact h.eras q hq
theorem SB.mera (h : SB B g rs cur ls ss v1 zv v3 v4 W) (hap : EraApart cur.length cur) {k i j : Nat} {x y : ZV} {e e' : EraP} {u : Value} (hx : cur[k]? = some x) (hv : x.1.2 = .slice (some ⟨b, 0, none⟩) x.1.1.eras.length c) (hyv : y.1.2 = x.1.2) (hyn : y.1.1.name = x.1.1.name)
    (he : x.1.1.eras[i]? = some e) (hj : j < 13) (hc : e'.cells.toList = e.cells.toList.set j u) (hye : y.1.1.eras = x.1.1.eras.set i e') :
    SB B g rs (cur.set k y) ls ss v1 zv v3 v4 (W.setCell ⟨b, i * 13 + j, none⟩ u) := by
  have hr := h.eras x (List.mem_of_getElem? hx)
  rw [hv] at hr
  obtain ⟨⟨C, hC⟩, hB⟩ := own_blk hr
  have hk : k < cur.length := (List.getElem?_eq_some_iff.1 hx).1
  refine ⟨h.out.far (blk_ne h.out hC (by decide)) _, own_farT h.rule hC (by decide) _, ?_, own_farT h.link hC (by decide) _, own_farT h.str hC (by decide) _, fun q hq => ?_⟩
  · have hz := own_farT h.zone hC (by decide) (j := i * 13 + j) u
    show World.ownsRow _ _ _ _ _ _ _
    rw [List.length_set, flatC_same encZV cur k x y hx (by unfold encZV encZ; rw [hyv, hyn])]
    exact hz
  · obtain ⟨t, ht⟩ := List.mem_iff_getElem?.1 hq
    by_cases hkt : k = t
    · subst hkt
      rw [List.getElem?_set_self hk] at ht
      obtain rfl := Option.some.inj ht
      show World.ownsRow _ _ _ _ _ _ _
      rw [hyv, hv, hye, List.length_set, flatC_put EraP.cells (fun x => (eraOk_cells x).1) u j hj _ i e e' he hc]
      exact own_set u hr
    · rw [List.getElem?_set_ne hkt] at ht
      have htl : t < cur.length := (List.getElem?_eq_some_iff.1 ht).1
      refine own_farN (h.eras q (List.mem_of_getElem? ht)) (fun hq2 => ?_) u
      have hxb : x.1.2.ownBlock = some b := by rw [hv]; simp [Value.ownBlock]
      rcases Nat.lt_or_gt_of_ne hkt with hlt | hlt
      · rcases hap k t x q hlt htl hx ht with h1 | h1
        · rw [hxb] at h1; cases h1
        · exact h1 (by rw [hxb, hq2])
      · rcases hap t k q x hlt hk ht hx with h1 | h1
        · rw [hq2] at h1; cases h1
        · exact h1 (by rw [hxb, hq2])
end
theorem set_ne {α : Type} {l : List α} {k : Nat} {x y : α} (hx : l[k]? = some x) (hne : y ≠ x) : l.set k y ≠ l := fun h => by
  have hk := (List.getElem?_eq_some_iff.1 hx).1
  have h2 : (l.set k y)[k]? = some y := List.getElem?_set_self hk
  rw [h, hx] at h2
  exact hne (Option.some.inj h2).symm
theorem snoc_ne {α : Type} (l : List α) (x : α) : l ++ [x] ≠ l := fun h => by
  have := congrArg List.length h
  simp at this
/-- a source that is not s, in block gc -/
def ApartS (w : World) (gc : Nat) (s : SourceP) (W : World) : Prop := ∃ s' v1 zv v3 v4 zs, Blk W gc 27 #[v1, zv, v3, v4] ∧ SrcIs W W.heap.size v1 zv v3 v4 zs s' ∧ Below w.heap.size w W ∧ s' ≠ s ∧ SrcLn s'
theorem apart_rule (d : DraftP) (x : RuleP) : (⟨(srcM d).rules ++ [x], (srcM d).zones, (srcM d).links, (srcM d).shifts⟩ : SourceP) ≠ srcM d ∧ SrcLn ⟨(srcM d).rules ++ [x], (srcM d).zones, (srcM d).links, (srcM d).shifts⟩ := by
  obtain ⟨h1, h2, h3, h4, h5⟩ := srcM_small d
  exact ⟨fun h => snoc_ne _ _ (congrArg SourceP.rules h), Small.ln ⟨by simp; omega, by simp; omega, by simp; omega, by simp; omega, fun z hz => by have := h5 z hz; omega⟩⟩
theorem apart_zone (d : DraftP) (x : ZoneP) (hx : x.eras.length ≤ 4) : (⟨(srcM d).rules, (srcM d).zones ++ [x], (srcM d).links, (srcM d).shifts⟩ : SourceP) ≠ srcM d ∧ SrcLn ⟨(srcM d).rules, (srcM d).zones ++ [x], (srcM d).links, (srcM d).shifts⟩ := by
  obtain ⟨h1, h2, h3, h4, h5⟩ := srcM_small d
  exact ⟨fun h => snoc_ne _ _ (congrArg SourceP.zones h), Small.ln ⟨by simp; omega, by simp; omega, by simp; omega, by simp; omega, mem_snoc (fun z hz => by have := h5 z hz; omega) (by omega)⟩⟩
theorem apart_link (d : DraftP) (x : LinkP) : (⟨(srcM d).rules, (srcM d).zones, (srcM d).links ++ [x], (srcM d).shifts⟩ : SourceP) ≠ srcM d ∧ SrcLn ⟨(srcM d).rules, (srcM d).zones, (srcM d).links ++ [x], (srcM d).shifts⟩ := by
  obtain ⟨h1, h2, h3, h4, h5⟩ := srcM_small d
  exact ⟨fun h => snoc_ne _ _ (congrArg SourceP.links h), Small.ln ⟨by simp; omega, by simp; omega, by simp; omega, by simp; omega, fun z hz => by have := h5 z hz; omega⟩⟩
theorem apart_shift (d : DraftP) (x : List UInt8) : (⟨(srcM d).rules, (srcM d).zones, (srcM d).links, (srcM d).shifts ++ [x]⟩ : SourceP) ≠ srcM d ∧ SrcLn ⟨(srcM d).rules, (srcM d).zones, (srcM d).links, (srcM d).shifts ++ [x]⟩ := by
  obtain ⟨h1, h2, h3, h4, h5⟩ := srcM_small d
  exact ⟨fun h => snoc_ne _ _ (congrArg SourceP.shifts h), Small.ln ⟨by simp; omega, by simp; omega, by simp; omega, by simp; omega, fun z hz => by have := h5 z hz; omega⟩⟩
theorem apart_mrule (d : DraftP) {k : Nat} {x y : RuleP} (hx : (srcM d).rules[k]? = some x) (hne : y ≠ x) : (⟨(srcM d).rules.set k y, (srcM d).zones, (srcM d).links, (srcM d).shifts⟩ : SourceP) ≠ srcM d ∧ SrcLn ⟨(srcM d).rules.set k y, (srcM d).zones, (srcM d).links, (srcM d).shifts⟩ := by
  obtain ⟨h1, h2, h3, h4, h5⟩ := srcM_small d
  exact ⟨fun h => set_ne hx hne (congrArg SourceP.rules h), Small.ln ⟨by simp; omega, by simp; omega, by simp; omega, by simp; omega, fun z hz => by have := h5 z hz; omega⟩⟩
theorem apart_mzone (d : DraftP) {k : Nat} {x y : ZoneP} (hx : (srcM d).zones[k]? = some x) (hne : y ≠ x) (hl : y.eras.length = x.eras.length) : (⟨(srcM d).rules, (srcM d).zones.set k y, (srcM d).links, (srcM d).shifts⟩ : SourceP) ≠ srcM d ∧ SrcLn ⟨(srcM d).rules, (srcM d).zones.set k y, (srcM d).links, (srcM d).shifts⟩ := by
  obtain ⟨h1, h2, h3, h4, h5⟩ := srcM_small d
  exact ⟨fun h => set_ne hx hne (congrArg SourceP.zones h), Small.ln ⟨by simp; omega, by simp; omega, by simp; omega, by simp; omega, fun z hz => by
    rcases mem_set' hx hz with rfl | hz
    · have := h5 x (List.mem_of_getElem? hx); omega
    · have := h5 z hz; omega⟩⟩
theorem apart_mlink (d : DraftP) {k : Nat} {x y : LinkP} (hx : (srcM d).links[k]? = some x) (hne : y ≠ x) : (⟨(srcM d).rules, (srcM d).zones, (srcM d).links.set k y, (srcM d).shifts⟩ : SourceP) ≠ srcM d ∧ SrcLn ⟨(srcM d).rules, (srcM d).zones, (srcM d).links.set k y, (srcM d).shifts⟩ := by
  obtain ⟨h1, h2, h3, h4, h5⟩ := srcM_small d
  exact ⟨fun h => set_ne hx hne (congrArg SourceP.links h), Small.ln ⟨by simp; omega, by simp; omega, by simp; omega, by simp; omega, fun z hz => by have := h5 z hz; omega⟩⟩
/-- the last era of a zone, and its month -/
theorem zone_last (d : DraftP) {z : ZoneP} (hz : z ∈ (srcM d).zones) : ∃ e, z.eras[z.eras.length - 1]? = some e ∧ 1 ≤ z.eras.length ∧ z.eras.length ≤ 4 ∧ 0 ≤ e.til.mon ∧ e.til.mon ≤ 12 := by
  have h4 := (srcM_small d).2.2.2.2 z hz
  have ho := (srcM_right d).zones z hz
  unfold zoneOk at ho
  simp only [Bool.and_eq_true, Bool.not_eq_true'] at ho
  obtain ⟨⟨⟨-, hne⟩, -⟩, hall⟩ := ho
  have h1 : 1 ≤ z.eras.length := by
    cases hh : z.eras with
    | nil => rw [hh] at hne; cases hne
    | cons a l => simp
  obtain ⟨e, he⟩ : ∃ e, z.eras[z.eras.length - 1]? = some e := ⟨_, List.getElem?_eq_getElem (by omega)⟩
  have hk := List.all_eq_true.1 hall e (List.mem_of_getElem? he)
  refine ⟨e, he, h1, h4, ?_⟩
  unfold eraOk at hk
  simp only [Bool.and_eq_true] at hk
  have hu := hk.2
  unfold untilOk at hu
  split at hu
  · simp only [decide_eq_true_eq] at hu
    omega
  · simp only [Bool.and_eq_true, decide_eq_true_eq] at hu
    omega
theorem rule_save (d : DraftP) {x : RuleP} (hx : x ∈ (srcM d).rules) : -604799 ≤ x.save ∧ x.save ≤ 604799 := ((ruleOk_iff x).1 ((srcM_right d).rules x hx)).save
end Go.Proofs.YtmcgbjjcpcgcfaaGreatDoor
