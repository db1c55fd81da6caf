/-
  printer.Copy: the source that it returns lies in rows of its own, apart from each other.
-/
import Derived.Test.YtmcgbjjcpcgcfaaGreatDoorDraftV
set_option linter.unusedVariables false
set_option linter.unusedSimpArgs false
namespace Go.Proofs.YtmcgbjjcpcgcfaaGreatDoor
open Go.RowKit Go.Shelf

theorem own_set {W : World} {B e k n c g q : Nat} {xs : List Value} (u : Value) (h : W.ownsRow B e k (.slice (some ⟨g, 0, none⟩) n c) n xs) : (W.setCell ⟨g, q, none⟩ u).ownsRow B e k (.slice (some ⟨g, 0, none⟩) n c) n (xs.set q u) := by
  refine ⟨by rw [List.length_set]; exact h.1, ?_⟩
  rcases h.2 with ⟨hx, _⟩ | ⟨g', cap, cur0, hx, hB, hh, hnc, hcm, hcs, ht⟩
  · cases hx
  · simp only [Value.slice.injEq, Option.some.injEq, Addr.mk.injEq, and_true, true_and] at hx
    obtain ⟨rfl, rfl⟩ := hx
    refine .inr ⟨g, c, cur0.setIfInBounds q u, rfl, hB, Blk.set_ hh q u, hnc, hcm, by rw [Array.size_setIfInBounds]; exact hcs, ?_⟩
    rw [Array.toList_setIfInBounds, List.take_set, ht]
theorem flatC_set (v' : Value) : ∀ (cur : List ZV) (k : Nat) (x y : ZV), cur[k]? = some x → y.1.1.name = x.1.1.name → y.1.2 = v' → flatC encZV (cur.set k y) = (flatC encZV cur).set (k * 2 + 1) v'
  | [], _, _, _, h, _, _ => by simp at h
  | a :: l, 0, x, y, h, hn, hv => by
    simp only [List.getElem?_cons_zero, Option.some.injEq] at h
    subst h
    simp [flatC, encZV, encZ, hn, hv]
  | a :: l, k + 1, x, y, h, hn, hv => by
    have ih := flatC_set v' l k x y (by simpa using h) hn hv
    have e1 : flatC encZV (a :: l.set k y) = .string ⟨a.1.1.name.toArray⟩ :: a.1.2 :: flatC encZV (l.set k y) := by simp [flatC, encZV, encZ]
    have e2 : flatC encZV (a :: l) = .string ⟨a.1.1.name.toArray⟩ :: a.1.2 :: flatC encZV l := by simp [flatC, encZV, encZ]
    rw [List.set_cons_succ, e1, e2, ih, show (k + 1) * 2 + 1 = (k * 2 + 1) + 1 + 1 by omega, List.set_cons_succ, List.set_cons_succ]
/-- eras' rows apart from each other -/
def EraApart (k : Nat) (cur : List ZV) : Prop := ∀ (i j : Nat) (x y : ZV), i < j → j < k → cur[i]? = some x → cur[j]? = some y → x.1.2.ownBlock = none ∨ x.1.2.ownBlock ≠ y.1.2.ownBlock
structure CI (w : World) (C : Array Value) (p : Option Addr) (N c k : Nat) (cur : List ZV) (W : World) : Prop where
  src : Blk W w.heap.size 27 C
  res : Blk W (w.heap.size + 1) 27 #[.slice none 0 0, .slice none 0 0, .slice none 0 0, .slice none 0 0]
  bel : Below w.heap.size w W
  zone : W.ownsRow (w.heap.size + 2) 50 2 (.slice p N c) N (flatC encZV cur)
  len : cur.length = N
  done : ∀ (i : Nat) (x : ZV), i < k → cur[i]? = some x → EraO (w.heap.size + 2) x.1.1.eras x.1.2 W
  todo : ∀ (i : Nat) (x : ZV), k ≤ i → cur[i]? = some x → RowsAt W w.heap.size 13 EraP.cells x.1.2 x.1.1.eras
  apart : EraApart k cur
section
variable {w W W' : World} {C : Array Value} {p : Option Addr} {N c k : Nat} {cur : List ZV}
theorem CI.below (h : CI w C p N c k cur W) (hb : Below W.heap.size W W') : CI w C p N c k cur W' :=
  ⟨h.src.below hb h.src.lt, h.res.below hb h.res.lt, h.bel.trans (hb.mono h.bel.size), OwnR.kept_ (w := W) h.zone hb, h.len, fun i x hi hx => (h.done i x hi hx).kept_ hb, fun i x hi hx => (h.todo i x hi hx).below (hb.mono h.bel.size), h.apart⟩
theorem CI.step {g L : Nat} (h : CI w C (some ⟨g, 0, none⟩) N c k cur W) (hg : w.heap.size + 2 ≤ g) (hz : ∃ Z, Blk W g 50 Z) {x : ZV} (hx : cur[k]? = some x) {v' : Value} (hv : EraO L x.1.1.eras v' W) (hL : w.heap.size + 2 ≤ L) (hlow : ∀ (i : Nat) (y : ZV), i < k → cur[i]? = some y → Low L y.1.2) (hs : ∃ p c, v' = .slice p x.1.1.eras.length c) :
    CI w C (some ⟨g, 0, none⟩) N c (k + 1) (cur.set k ⟨(x.1.1, v'), hs⟩) (W.setCell ⟨g, k * 2 + 1, none⟩ v') := by
  obtain ⟨Z, hZ⟩ := hz
  have hk : k < cur.length := (List.getElem?_eq_some_iff.1 hx).1
  have cs : ∀ (j : Nat) (y : ZV), (cur.set k ⟨(x.1.1, v'), hs⟩)[j]? = some y → (j = k ∧ y = ⟨(x.1.1, v'), hs⟩) ∨ (j ≠ k ∧ cur[j]? = some y) := fun j y hy => by
    by_cases hj : j = k
    · subst hj
      rw [List.getElem?_set_self hk] at hy
      exact .inl ⟨rfl, (Option.some.inj hy).symm⟩
    · rw [List.getElem?_set_ne (Ne.symm hj)] at hy
      exact .inr ⟨hj, hy⟩
  refine ⟨h.src.far (by show w.heap.size ≠ g; omega) _, h.res.far (by show w.heap.size + 1 ≠ g; omega) _, h.bel.setCell (by show w.heap.size ≤ g; omega) _, ?_, by rw [List.length_set]; exact h.len, fun i y hi hy => ?_, fun i y hi hy => ?_, fun i j y z hij hj hy hz => ?_⟩
  · rw [flatC_set v' cur k x ⟨(x.1.1, v'), hs⟩ hx rfl rfl]
    exact own_set v' h.zone
  · rcases cs i y hy with ⟨_, rfl⟩ | ⟨hne, hy⟩
    · exact own_farT (own_mono hv hL) hZ (by decide) _
    · exact own_farT (h.done i y (by omega) hy) hZ (by decide) _
  · rcases cs i y hy with ⟨rfl, _⟩ | ⟨hne, hy⟩
    · omega
    · exact (h.todo i y (by omega) hy).below ((Below.refl _ _).setCell (by show w.heap.size ≤ g; omega) _)
  · rcases cs j z hz with ⟨rfl, rfl⟩ | ⟨hne, hz⟩
    · rcases cs i y hy with ⟨hik, _⟩ | ⟨hne2, hy⟩
      · omega
      · cases hb : y.1.2.ownBlock with
        | none => exact .inl rfl
        | some a =>
          refine .inr fun hh => ?_
          have h1 := hlow i y hij hy a hb
          have h2 := own_base hv a hh.symm
          omega
    · rcases cs i y hy with ⟨rfl, _⟩ | ⟨hne2, hy⟩
      · omega
      · exact h.apart i j y z hij (by omega) hy hz
end

set_option maxRecDepth 100000 in
set_option maxHeartbeats 2000000 in
theorem copy_own (r z l h : Value) (zs : List (ZoneP × Value)) (s : SourceP) (w : World) (hs : SrcIs w w.heap.size r z l h zs s) (hn : SrcLn s) :
    Calls Tryz.prog 14 #[.agg #[r, z, l, h]] w fun e w' => (∃ v1 zv v3 v4 cur, e = .returned (.agg #[v1, zv, v3, v4]) ∧ cur.map (fun q : ZV => q.1.1) = s.zones ∧ SO w.heap.size s.rules cur s.links s.shifts v1 zv v3 v4 w' ∧ EraApart cur.length cur) ∧ Below w.heap.size w w' := by
  obtain ⟨ys, hys⟩ := zv_of hs.2.2.2.1
  have eys : ys.map (fun q => q.1.1) = s.zones := by rw [← hs.2.2.1, ← hys, List.map_map]; rfl
  have lys : ys.length = s.zones.length := by rw [← eys]; simp
  have HOL := Lib.hid (show ∀ W, Below w.heap.size w W → ∀ q ∈ ys, RowsAt W w.heap.size 13 EraP.cells q.1.2 q.1.1.eras from fun W hW q hq => (hs.2.2.2.1 q.1 (by rw [← hys]; exact List.mem_map.2 ⟨q, hq, rfl⟩)).below hW)
  have HEL := Lib.hid (show ∀ cur : List ZV, cur.map (fun q => q.1.1) = s.zones → ∀ x ∈ cur, x.1.1.eras.length ≤ 1048576 from fun cur hc x hx => hn.eras _ (by rw [← hc]; exact List.mem_map.2 ⟨x, hx, rfl⟩))
  have HC1 := Lib.hid (fun W (hW : Below w.heap.size w W) (hW2 : w.heap.size + 2 ≤ W.heap.size) => (cloneRule_any RuleP.cells (fun x => (rule_cells x).1) (fun x => (rule_cells x).2) s.rules r W (hs.now hW).1 hn.rules).mono (R' := fun e w' => (∃ v', e = .returned v' ∧ RuleO (w.heap.size + 2) s.rules v' w') ∧ Below W.heap.size W w') fun e w' ⟨⟨v', he, ho⟩, hb⟩ => ⟨⟨v', he, own_mono ho hW2⟩, hb⟩)
  have HC3 := Lib.hid (fun W (hW : Below w.heap.size w W) (hW2 : w.heap.size + 2 ≤ W.heap.size) => (cloneLink_any LinkP.cells (fun x => (link_cells x).1) (fun x => (link_cells x).2) s.links l W (hs.now hW).2.2.2.2.1 hn.links).mono (R' := fun e w' => (∃ v', e = .returned v' ∧ LinkO (w.heap.size + 2) s.links v' w') ∧ Below W.heap.size W w') fun e w' ⟨⟨v', he, ho⟩, hb⟩ => ⟨⟨v', he, own_mono ho hW2⟩, hb⟩)
  have HC4 := Lib.hid (fun W (hW : Below w.heap.size w W) (hW2 : w.heap.size + 2 ≤ W.heap.size) => (cloneStr_any encS (fun x => rfl) (fun x => by simp [encS, Value.oneCell']) s.shifts h W (hs.now hW).2.2.2.2.2 hn.shifts).mono (R' := fun e w' => (∃ v', e = .returned v' ∧ StrO (w.heap.size + 2) s.shifts v' w') ∧ Below W.heap.size W w') fun e w' ⟨⟨v', he, ho⟩, hb⟩ => ⟨⟨v', he, own_mono ho hW2⟩, hb⟩)
  have HC2 := Lib.hid (fun W (hW : Below w.heap.size w W) => cloneZone_any encZV (fun x => (zone_cells x).1) (fun x => (zone_cells x).2) ys z W (RowsAt.unmap (fun q : ZV => q.1) ys (by rw [hys]; exact (hs.now hW).2.1)) (by rw [lys]; exact hn.zones))
  have HCE := Lib.hid (fun (W : World) (x : ZV) (hx : RowsAt W W.heap.size 13 EraP.cells x.1.2 x.1.1.eras) (hxl : x.1.1.eras.length ≤ 1048576) => cloneEra_any EraP.cells (fun x => (eraOk_cells x).1) (fun x => (eraOk_cells x).2) x.1.1.eras x.1.2 W hx hxl)
  have hb0 : Below w.heap.size w ((w.alloc (.cells #[r, z, l, h] 27)).alloc (.cells #[.slice none 0 0, .slice none 0 0, .slice none 0 0, .slice none 0 0] 27)) := ((Below.refl _ _).alloc (Nat.le_refl _) _).alloc (by simp) _
  have HB0 := Lib.hid (show Blk ((w.alloc (.cells #[r, z, l, h] 27)).alloc (.cells #[.slice none 0 0, .slice none 0 0, .slice none 0 0, .slice none 0 0] 27)) w.heap.size 27 #[r, z, l, h] ∧ Blk ((w.alloc (.cells #[r, z, l, h] 27)).alloc (.cells #[.slice none 0 0, .slice none 0 0, .slice none 0 0, .slice none 0 0] 27)) (w.heap.size + 1) 27 #[.slice none 0 0, .slice none 0 0, .slice none 0 0, .slice none 0 0] ∧ Below w.heap.size w ((w.alloc (.cells #[r, z, l, h] 27)).alloc (.cells #[.slice none 0 0, .slice none 0 0, .slice none 0 0, .slice none 0 0] 27)) from ⟨(Blk.new' _ _ _ rfl).alloc _, Blk.new' _ _ _ (by simp), hb0⟩)
  have HEY := Lib.hid eys
  obtain ⟨p1', c1', rfl⟩ := hs.1.slice
  obtain ⟨p2', c2', rfl⟩ := hs.2.1.slice
  obtain ⟨p3', c3', rfl⟩ := hs.2.2.2.2.1.slice
  obtain ⟨p4', c4', rfl⟩ := hs.2.2.2.2.2.slice
  have hnz : ys.length ≤ 1048576 := by rw [lys]; exact hn.zones
  clear hs hn eys lys hb0 hys
  go_enter Tryz.func14, Tryz.ntmps14
  go_wp2_with fail
  refine (HC2.out _ HB0.out.2.2).mono ?_
  rintro e w1 ⟨⟨v1, rfl, hown⟩, hb1⟩
  have hb1' := HB0.out.2.2.trans (hb1.mono HB0.out.2.2.size)
  have hown : w1.ownsRow (w.heap.size + 2) 50 2 v1 ys.length (flatC encZV ys) := by have := hown; simpa using this
  obtain ⟨p1, c1, rfl⟩ := own_form hown
  have HS1 := Lib.hid (show CI w #[.slice p1' s.rules.length c1', .slice p2' zs.length c2', .slice p3' s.links.length c3', .slice p4' s.shifts.length c4'] p1 ys.length c1 0 ys w1 from ⟨HB0.out.1.below hb1 HB0.out.1.lt, HB0.out.2.1.below hb1 HB0.out.2.1.lt, hb1', hown, rfl, fun i x hi => absurd hi (by omega), fun i x _ hx => HOL.out w1 hb1' x (List.mem_of_getElem? hx), fun i j x y _ hj => absurd hj (by omega)⟩)
  clear hown hb1 hb1' HB0 HC2 HOL
  obtain ⟨N, hNN⟩ : ∃ N, ys.length = N := ⟨_, rfl⟩
  rw [hNN] at hnz HS1 ⊢
  clear hNN
  go_wp2_with fail
  go_loopw [4, 10] (fun _ i wr => ∃ (k : Nat) (cur : List ZV), k ≤ N ∧ i = .int .i64 (k : Int) ∧ Hid (cur.map (fun q => q.1.1) = s.zones ∧ CI w #[.slice p1' s.rules.length c1', .slice p2' zs.length c2', .slice p3' s.links.length c3', .slice p4' s.shifts.length c4'] p1 N c1 k cur wr)) (fun _ i _ => N - (intOf i).toNat)
  case atStart => exact ⟨0, ys, Nat.zero_le _, rfl, Lib.hid ⟨HEY.out, HS1.out⟩⟩
  case round =>
    clear HS1
    obtain ⟨k, cur, hk, rfl, HI⟩ := hrel
    by_cases hlt : k < N
    · obtain ⟨x, hx⟩ : ∃ x, cur[k]? = some x := ⟨_, List.getElem?_eq_getElem (by have := HI.out.2.len; omega)⟩
      obtain ⟨g, cap, hv9, hgB, hgl⟩ := World.ownsRow.form HI.out.2.zone (by omega)
      injection hv9 with hv9 _ hv8
      subst hv9 hv8
      have hZ : ∃ Z, Blk wr g 50 Z := by
        rcases HI.out.2.zone.2 with ⟨h9, _⟩ | ⟨g', cap, cur0, h9, _, hh, _⟩
        · cases h9
        · injection h9 with h9 _ _; injection h9 with h9; injection h9 with h9 _ _; subst h9; exact ⟨_, hh⟩
      have hzc : wr.cell? ⟨g, k * 2 + 1, none⟩ = some x.1.2 := by
        have h1 := World.ownsRow.cells HI.out.2.zone (g := g) rfl
        have h2 := flatC_at (fun x => (zone_cells x).1) cur k 1 x hx (by decide)
        have h3 := h1 (k * 2 + 1) x.1.2 (by rw [h2]; rfl)
        rwa [Addr.add_lit, Nat.zero_add] at h3
      have hd : decide ((k : Int) < (N : Int)) = true := by simp; omega
      have k0 : (0 : Int) ≤ (k : Int) := by omega
      have kl : (k : Int) < (N : Int) := by omega
      have HCx := Lib.hid (HCE.out wr x ((HI.out.2.todo k x (Nat.le_refl _) hx).mono HI.out.2.bel.size) (HEL.out cur HI.out.1 x (List.mem_of_getElem? hx)))
      have HX := Lib.hid hx
      have HZ := Lib.hid hZ
      obtain ⟨px, cx, hpx⟩ := x.2
      rw [hpx] at hzc HCx
      clear hx hZ HCE
      go_wp2_with fail
      refine HCx.out.mono ?_
      rintro e w2 ⟨⟨v', rfl, hr⟩, hb2⟩
      have hI2 := HI.out.2.below hb2
      obtain ⟨p5, c5, rfl⟩ := own_form hr
      obtain ⟨Z, hZ⟩ := HZ.out
      have hZ2 := hZ.below hb2 hZ.lt
      have ce2 : w2.cell? ⟨g, k * 2 + 1, none⟩ = some (.slice px x.1.1.eras.length cx) := (hb2.cell (p := ⟨g, k * 2 + 1, none⟩) hZ.lt).trans hzc
      have cf2 := hZ2.frozen (k * 2 + 1)
      have HI2 := Lib.hid (show (cur.set k ⟨(x.1.1, .slice p5 x.1.1.eras.length c5), ⟨p5, c5, rfl⟩⟩).map (fun q => q.1.1) = s.zones ∧ CI w #[.slice p1' s.rules.length c1', .slice p2' zs.length c2', .slice p3' s.links.length c3', .slice p4' s.shifts.length c4'] (some ⟨g, 0, none⟩) N c1 (k + 1) (cur.set k ⟨(x.1.1, .slice p5 x.1.1.eras.length c5), ⟨p5, c5, rfl⟩⟩) (w2.setCell ⟨g, k * 2 + 1, none⟩ (.slice p5 x.1.1.eras.length c5)) from by
        refine ⟨?_, hI2.step (L := wr.heap.size) hgB ⟨Z, hZ2⟩ HX.out hr (by have := HI.out.2.res.lt; omega) (fun i y hi hy => low_of (HI.out.2.done i y hi hy)) _⟩
        rw [List.map_set, ← HI.out.1]
        refine List.ext_getElem? fun j => ?_
        by_cases hj : k = j
        · subst hj
          rw [List.getElem?_set_self (by have := HI.out.2.len; simp; omega), List.getElem?_map, HX.out]
          rfl
        · rw [List.getElem?_set_ne hj])
      clear hr hb2 hZ hZ2 HI HCx HX HZ hzc hI2 hgB hgl
      go_wp2_with fail
      go_roundw
      case rel => exact ⟨k + 1, _, by omega, by go_num, HI2⟩
      case measure => simp [intOf]; omega
    · obtain rfl : N = k := by omega
      have hd : decide ((N : Int) < (N : Int)) = false := by simp
      clear hlt hk HCE HEL HEY
      go_wp2_with fail
      refine wp_region_rels 10 [[], [], [], [], [], [], [], [], [], []] [Form.val, Form.val, Form.rel (RuleO (w.heap.size + 2) s.rules), Form.val, Form.val, Form.val, Form.rel (LinkO (w.heap.size + 2) s.links), Form.val, Form.val, Form.rel (StrO (w.heap.size + 2) s.shifts)] (fun W => CI w #[.slice p1' s.rules.length c1', .slice p2' zs.length c2', .slice p3' s.links.length c3', .slice p4' s.shifts.length c4'] p1 N c1 N cur W) (by kernel_rfl) (by kernel_rfl) rfl rfl (HI.out.2.below (Below.refl _ _).drew) (fun W W2 k hb => k.below hb) ⟨OwnR.last _ _ _ _ _, OwnR.last _ _ _ _ _, OwnR.last _ _ _ _ _, trivial⟩ ?_
      repeat (first | apply exSpec_rel | apply exSpec_new | apply exSpec_val)
      apply relWalk_ex rfl ?o0 (fun K hK => ?n0)
      case o0 =>
        intro W hC hF
        have c0 := hC.src.cell_ (i := 0) rfl
        have c2 := hC.src.cell_ (i := 2) rfl
        have c3 := hC.src.cell_ (i := 3) rfl
        go_simp
        all_goals exact ⟨Below.refl _ _, rfl⟩
      case' n0 =>
        go_simp
        refine hK _ ?_
        clear hK K
      apply relWalk_ex rfl ?o1 (fun K hK => ?n1)
      case o1 =>
        intro W hC hF
        have c0 := hC.src.cell_ (i := 0) rfl
        have c2 := hC.src.cell_ (i := 2) rfl
        have c3 := hC.src.cell_ (i := 3) rfl
        go_simp
        all_goals exact ⟨Below.refl _ _, rfl⟩
      case' n1 =>
        go_simp
        refine hK _ ?_
        clear hK K
      apply relWalk_rel rfl ?o2 (fun u2 K hK => ?n2)
      case o2 =>
        intro W hC hF
        have c0 := hC.src.cell_ (i := 0) rfl
        have c2 := hC.src.cell_ (i := 2) rfl
        have c3 := hC.src.cell_ (i := 3) rfl
        go_simp
        all_goals exact (HC1.out W hC.bel hC.res.lt).mono fun e w2 ⟨⟨v2, he, ho⟩, hb⟩ => ⟨v2, he, hb, ho⟩
      case' n2 =>
        go_simp
        refine hK _ ?_
        clear hK K
      apply relWalk_ex rfl ?o3 (fun K hK => ?n3)
      case o3 =>
        intro W hC hF
        have c0 := hC.src.cell_ (i := 0) rfl
        have c2 := hC.src.cell_ (i := 2) rfl
        have c3 := hC.src.cell_ (i := 3) rfl
        go_simp
        all_goals exact ⟨Below.refl _ _, rfl⟩
      case' n3 =>
        go_simp
        refine hK _ ?_
        clear hK K
      apply relWalk_ex rfl ?o4 (fun K hK => ?n4)
      case o4 =>
        intro W hC hF
        have c0 := hC.src.cell_ (i := 0) rfl
        have c2 := hC.src.cell_ (i := 2) rfl
        have c3 := hC.src.cell_ (i := 3) rfl
        go_simp
        all_goals exact ⟨Below.refl _ _, rfl⟩
      case' n4 =>
        go_simp
        refine hK _ ?_
        clear hK K
      apply relWalk_ex rfl ?o5 (fun K hK => ?n5)
      case o5 =>
        intro W hC hF
        have c0 := hC.src.cell_ (i := 0) rfl
        have c2 := hC.src.cell_ (i := 2) rfl
        have c3 := hC.src.cell_ (i := 3) rfl
        go_simp
        all_goals exact ⟨Below.refl _ _, rfl⟩
      case' n5 =>
        go_simp
        refine hK _ ?_
        clear hK K
      apply relWalk_rel rfl ?o6 (fun u6 K hK => ?n6)
      case o6 =>
        intro W hC hF
        have c0 := hC.src.cell_ (i := 0) rfl
        have c2 := hC.src.cell_ (i := 2) rfl
        have c3 := hC.src.cell_ (i := 3) rfl
        go_simp
        all_goals exact (HC3.out W hC.bel hC.res.lt).mono fun e w2 ⟨⟨v2, he, ho⟩, hb⟩ => ⟨v2, he, hb, ho⟩
      case' n6 =>
        go_simp
        refine hK _ ?_
        clear hK K
      apply relWalk_ex rfl ?o7 (fun K hK => ?n7)
      case o7 =>
        intro W hC hF
        have c0 := hC.src.cell_ (i := 0) rfl
        have c2 := hC.src.cell_ (i := 2) rfl
        have c3 := hC.src.cell_ (i := 3) rfl
        go_simp
        all_goals exact ⟨Below.refl _ _, rfl⟩
      case' n7 =>
        go_simp
        refine hK _ ?_
        clear hK K
      apply relWalk_ex rfl ?o8 (fun K hK => ?n8)
      case o8 =>
        intro W hC hF
        have c0 := hC.src.cell_ (i := 0) rfl
        have c2 := hC.src.cell_ (i := 2) rfl
        have c3 := hC.src.cell_ (i := 3) rfl
        go_simp
        all_goals exact ⟨Below.refl _ _, rfl⟩
      case' n8 =>
        go_simp
        refine hK _ ?_
        clear hK K
      apply relWalk_rel rfl ?o9 (fun u9 K hK => ?n9)
      case o9 =>
        intro W hC hF
        have c0 := hC.src.cell_ (i := 0) rfl
        have c2 := hC.src.cell_ (i := 2) rfl
        have c3 := hC.src.cell_ (i := 3) rfl
        go_simp
        all_goals exact (HC4.out W hC.bel hC.res.lt).mono fun e w2 ⟨⟨v2, he, ho⟩, hb⟩ => ⟨v2, he, hb, ho⟩
      case' n9 =>
        go_simp
        refine hK _ ?_
        clear hK K
      apply relWalk_end
      intro W hC hF hU
      obtain ⟨h9, h6, h2, -⟩ := hF
      obtain ⟨q2, d2, rfl⟩ := own_form h2
      obtain ⟨q6, d6, rfl⟩ := own_form h6
      obtain ⟨q9, d9, rfl⟩ := own_form h9
      have s0 := hC.res.cell_ (i := 0) rfl
      have s1 := hC.res.cell_ (i := 1) rfl
      have s2 := hC.res.cell_ (i := 2) rfl
      have s3 := hC.res.cell_ (i := 3) rfl
      have f0 := hC.res.frozen 0
      have f1 := hC.res.frozen 1
      have f2 := hC.res.frozen 2
      have f3 := hC.res.frozen 3
      have HA := Lib.hid (And.intro h2 (And.intro h6 (And.intro h9 hC)))
      clear h2 h6 h9 hC hU HC1 HC3 HC4
      go_wp2_with fail
      obtain ⟨h2, h6, h9, hC⟩ := HA.out
      have r0 := hC.res
      have r1 := r0.set_ 0 (.slice q2 s.rules.length d2)
      have r2 := r1.set_ 1 (.slice p1 N c1)
      have r3 := r2.set_ 2 (.slice q6 s.links.length d6)
      have bF := r3.set_ 3 (.slice q9 s.shifts.length d9)
      have fr : ∀ {T k n : Nat} {v : Value} {xs : List Value}, T ≠ 27 → W.ownsRow (w.heap.size + 2) T k v n xs → ((((W.setCell ⟨w.heap.size + 1, 0, none⟩ (.slice q2 s.rules.length d2)).setCell ⟨w.heap.size + 1, 1, none⟩ (.slice p1 N c1)).setCell ⟨w.heap.size + 1, 2, none⟩ (.slice q6 s.links.length d6)).setCell ⟨w.heap.size + 1, 3, none⟩ (.slice q9 s.shifts.length d9)).ownsRow w.heap.size T k v n xs := fun hne ho => own_mono (own_farT (own_farT (own_farT (own_farT ho r0 hne _) r1 hne _) r2 hne _) r3 hne _) (by omega)
      have hge1 : w.heap.size ≤ w.heap.size + 1 := by omega
      have hlen := hC.len
      refine bodyPost_ret (results_cell_row rfl _ _ (w.heap.size + 1) 27 #[.slice q2 s.rules.length d2, .slice p1 N c1, .slice q6 s.links.length d6, .slice q9 s.shifts.length d9] (0, 0) _ rfl bF Tryz.underlying27 rfl (by kernel_rfl)) rfl ⟨⟨_, _, _, _, rfl, cur, HI.out.1, ⟨fr (by decide) h2, ?_, fr (by decide) h6, fr (by decide) h9, fun q hq => ?_⟩, ?_⟩, (((hC.bel.setCell hge1 _).setCell hge1 _).setCell hge1 _).setCell hge1 _⟩
      · have := fr (by decide) hC.zone
        show World.ownsRow _ _ _ _ _ _ _
        rw [hlen]
        exact this
      · obtain ⟨i, hi⟩ := List.mem_iff_getElem?.1 hq
        exact fr (by decide) (hC.done i q (by have := (List.getElem?_eq_some_iff.1 hi).1; omega) hi)
      · rw [hlen]
        exact hC.apart
end Go.Proofs.YtmcgbjjcpcgcfaaGreatDoor
