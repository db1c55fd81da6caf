/-
  The reference's Copy of layer 14: a source equal to the one that is given.
-/
import Derived.Test.YtmcgbjjcpcgcfaaGreatDoorSrcOwn
set_option linter.unusedVariables false
set_option linter.unusedSimpArgs false
namespace Go.Proofs.YtmcgbjjcpcgcfaaGreatDoor
open Go.RowKit Go.Shelf

def NewSrc (B : Nat) (u : Value) (W : World) : Prop := ∃ g, u = .pointer (some ⟨g, 0, none⟩) ∧ Blk W g 27 #[.slice none 0 0, .slice none 0 0, .slice none 0 0, .slice none 0 0] ∧ B ≤ g
theorem NewSrc.last (B : Nat) : Lasts (NewSrc B) := fun u W W2 hb ⟨g, e, h1, h2⟩ => ⟨g, e, h1.below hb h1.lt, h2⟩
/-- the value of a source, and its rows -/
def Src3 (B : Nat) (s : SourceP) (u : Value) (W : World) : Prop := ∃ v1 v3 v4, u = .agg #[v1, .slice none 0 0, v3, v4] ∧ RuleO B s.rules v1 W ∧ LinkO B s.links v3 W ∧ StrO B s.shifts v4 W
theorem Src3.last (B : Nat) (s : SourceP) : Lasts (Src3 B s) := fun _ _ _ hb ⟨v1, v3, v4, e, h1, h2, h3⟩ => ⟨v1, v3, v4, e, h1.kept_ hb, h2.kept_ hb, h3.kept_ hb⟩
/-- the state of the copying: the argument, the result, the copied parts -/
structure CL (w : World) (C : Array Value) (s : SourceP) (g : Nat) (v1 v3 v4 zv : Value) (cur : List ZV) (W : World) : Prop where
  src : Blk W w.heap.size 27 C
  res : Blk W (w.heap.size + 1) 27 #[.slice none 0 0, .slice none 0 0, .slice none 0 0, .slice none 0 0]
  bel : Below w.heap.size w W
  ge : w.heap.size + 2 ≤ g
  sb : SB w.heap.size g s.rules cur s.links s.shifts v1 zv v3 v4 W
theorem CL.below {w W W' : World} {C : Array Value} {s : SourceP} {g : Nat} {v1 v3 v4 zv : Value} {cur : List ZV} (h : CL w C s g v1 v3 v4 zv cur W) (hb : Below W.heap.size W W') : CL w C s g v1 v3 v4 zv cur W' :=
  ⟨h.src.below hb h.src.lt, h.res.below hb h.res.lt, h.bel.trans (hb.mono h.bel.size), h.ge, h.sb.below hb⟩
theorem CL.grown {w W W' : World} {C : Array Value} {s : SourceP} {g : Nat} {v1 v3 v4 zv : Value} {cur : List ZV} (h : CL w C s g v1 v3 v4 zv cur W) (hg : GZone w.heap.size cur zv W W') : CL w C s g v1 v3 v4 zv cur W' :=
  ⟨blk_grown h.src hg.1 h.sb.zone (by decide), blk_grown h.res hg.1 h.sb.zone (by decide), h.bel.grown hg.1 h.bel.size (own_base h.sb.zone), h.ge, h.sb.gzone hg⟩
/-- what the round's parts yield: the zone's value · the one zone's row · the zones' row -/
def ZNew (B : Nat) (z : ZoneP) (u : Value) (W : World) : Prop := ∃ v, u = .agg #[.string ⟨z.name.toArray⟩, v] ∧ EraO B z.eras v W
theorem ZNew.last (B : Nat) (z : ZoneP) : Lasts (ZNew B z) := fun _ _ _ hb ⟨v, e, h⟩ => ⟨v, e, h.kept_ hb⟩
def ZRow1 (B : Nat) (z : ZoneP) (u : Value) (W : World) : Prop := ∃ v, One 50 B #[.string ⟨z.name.toArray⟩, v] u W ∧ EraO B z.eras v W
theorem ZRow1.last (B : Nat) (z : ZoneP) : Lasts (ZRow1 B z) := fun _ _ _ hb ⟨v, e, h⟩ => ⟨v, One.last _ _ _ _ _ _ hb e, h.kept_ hb⟩
def ZPush (B : Nat) (L : Nat) (z : ZoneP) (cur : List ZV) (u : Value) (W : World) : Prop := ∃ x : ZV, x.1.1 = z ∧ ZoneO B (cur ++ [x]) u W ∧ EraO L z.eras x.1.2 W
theorem ZPush.last (B L : Nat) (z : ZoneP) (cur : List ZV) : Lasts (ZPush B L z cur) := fun _ _ _ hb ⟨x, e, h1, h2⟩ => ⟨x, e, h1.kept_ hb, h2.kept_ hb⟩
theorem lastsG_znew {e k B n L : Nat} {z : ZoneP} {xs : List Value} {v : Value} (hL : Low L v) : LastsG (GOwn e k B n xs v) (ZNew L z) := fun u w w' hG ⟨y, e, h⟩ => ⟨y, e, lastsG_own hL y w w' hG h⟩
theorem lastsG_zrow1 {e k B n L : Nat} {z : ZoneP} {xs : List Value} {v : Value} (hL : Low L v) : LastsG (GOwn e k B n xs v) (ZRow1 L z) := fun u w w' hG ⟨y, e, h⟩ => ⟨y, lastsG_one hL u w w' hG e, lastsG_own hL y w w' hG h⟩

set_option maxRecDepth 100000 in
set_option maxHeartbeats 2000000 in
theorem r14copy_any (r z l h : Value) (zs : List (ZoneP × Value)) (s : SourceP) (w : World) (hs : SrcIs w w.heap.size r z l h zs s) (hn : SrcLn s) :
    Calls Tryz.prog 10 #[.agg #[r, z, l, h]] w fun e w' => (∃ r' z' l' h' zs', e = .returned (.agg #[r', z', l', h']) ∧ SrcIs w' w'.heap.size r' z' l' h' zs' s) ∧ Below w.heap.size w w' := by
  obtain ⟨ys, hys⟩ := zv_of hs.2.2.2.1
  have eys : ys.map (fun q => q.1.1) = s.zones := by rw [← hs.2.2.1, ← hys, List.map_map]; rfl
  have lys : ys.length = s.zones.length := by rw [← eys]; simp
  have lzs : ys.length = zs.length := by rw [← hys]; simp
  have hzl : ys.length ≤ 1048576 := by rw [lys]; exact hn.zones
  obtain ⟨irule, zrule, hirule, hzrule, hszrule, hbyrule, hzcrule⟩ := info_st (P := Tryz.prog) (e := 47) (k := 11) (by kernel_rfl)
  obtain ⟨ilink, zlink, hilink, hzlink, hszlink, hbylink, hzclink⟩ := info_st (P := Tryz.prog) (e := 58) (k := 2) (by kernel_rfl)
  obtain ⟨istr, zstr, histr, hzstr, hszstr, hbystr, hzcstr⟩ := info_st (P := Tryz.prog) (e := 9) (k := 1) (by kernel_rfl)
  obtain ⟨iera, zera, hiera, hzera, hszera, hbyera, hzcera⟩ := info_st (P := Tryz.prog) (e := 55) (k := 13) (by kernel_rfl)
  obtain ⟨izone, zzone, hizone, hzzone, hszzone, hbyzone, hzczone⟩ := info_st (P := Tryz.prog) (e := 50) (k := 2) (by kernel_rfl)
  obtain ⟨p1', c1', rfl⟩ := hs.1.slice
  obtain ⟨p2', c2', rfl, hr2⟩ := hs.2.1
  obtain ⟨p3', c3', rfl⟩ := hs.2.2.2.2.1.slice
  obtain ⟨p4', c4', rfl⟩ := hs.2.2.2.2.2.slice
  have HRrule := Lib.hid (RowsAt.reads (by decide) (fun x => (rule_cells x).1) hs.1)
  have HRlink := Lib.hid (RowsAt.reads (by decide) (fun x => (link_cells x).1) hs.2.2.2.2.1)
  have HRstr := Lib.hid (RowsAt.reads (k := 1) (by decide) (fun x => rfl) hs.2.2.2.2.2)
  have HOrule := Lib.hid (flatC_one (fun x => (rule_cells x).2) s.rules)
  have HOlink := Lib.hid (flatC_one (fun x => (link_cells x).2) s.links)
  have HOstr := Lib.hid (flatC_one (fun x => by simp [encS, Value.oneCell']) s.shifts : ∀ u ∈ flatC encS s.shifts, u.oneCell' = true)
  have HLrule := Lib.hid hn.rules
  have HLlink := Lib.hid hn.links
  have HLstr := Lib.hid hn.shifts
  have HER := Lib.hid (show ∀ q ∈ ys, RowsAt w w.heap.size 13 EraP.cells q.1.2 q.1.1.eras ∧ q.1.1.eras.length ≤ 1048576 from fun q hq => ⟨hs.2.2.2.1 q.1 (by rw [← hys]; exact List.mem_map.2 ⟨q, hq, rfl⟩), hn.eras _ (by rw [← eys]; exact List.mem_map.2 ⟨q, hq, rfl⟩)⟩)
  have HR2 := Lib.hid (show zs ≠ [] → ∃ b o, p2' = some ⟨b, o, none⟩ ∧ b < w.heap.size ∧ ∀ i x, ys[i]? = some x → w.rangeAt b (o + i * 2) (encZV x).toList from fun h0 => by
    obtain ⟨b, o, e, hb, h2⟩ := hr2 h0
    exact ⟨b, o, e, hb, fun i x hx => h2 i x.1 (by rw [← hys, List.getElem?_map, hx]; rfl)⟩)
  have HEY := Lib.hid eys
  have HLZ := Lib.hid lzs
  have hb0 : Below w.heap.size w ((w.alloc (.cells #[.slice p1' s.rules.length c1', .slice p2' zs.length c2', .slice p3' s.links.length c3', .slice p4' s.shifts.length c4'] 27)).alloc (.cells #[.slice none 0 0, .slice none 0 0, .slice none 0 0, .slice none 0 0] 27)) := ((Below.refl _ _).alloc (Nat.le_refl _) _).alloc (by simp) _
  have HB0 := Lib.hid (show Blk ((w.alloc (.cells #[.slice p1' s.rules.length c1', .slice p2' zs.length c2', .slice p3' s.links.length c3', .slice p4' s.shifts.length c4'] 27)).alloc (.cells #[.slice none 0 0, .slice none 0 0, .slice none 0 0, .slice none 0 0] 27)) w.heap.size 27 #[.slice p1' s.rules.length c1', .slice p2' zs.length c2', .slice p3' s.links.length c3', .slice p4' s.shifts.length c4'] ∧ Blk ((w.alloc (.cells #[.slice p1' s.rules.length c1', .slice p2' zs.length c2', .slice p3' s.links.length c3', .slice p4' s.shifts.length c4'] 27)).alloc (.cells #[.slice none 0 0, .slice none 0 0, .slice none 0 0, .slice none 0 0] 27)) (w.heap.size + 1) 27 #[.slice none 0 0, .slice none 0 0, .slice none 0 0, .slice none 0 0] ∧ Below w.heap.size w ((w.alloc (.cells #[.slice p1' s.rules.length c1', .slice p2' zs.length c2', .slice p3' s.links.length c3', .slice p4' s.shifts.length c4'] 27)).alloc (.cells #[.slice none 0 0, .slice none 0 0, .slice none 0 0, .slice none 0 0] 27)) from ⟨(Blk.new' _ _ _ rfl).alloc _, Blk.new' _ _ _ (by simp), hb0⟩)
  clear hs hn eys lys lzs hb0 hys hr2
  go_enter Tryz.func10, Tryz.ntmps10
  go_upto_region 1 with fail
  refine wp_region_rels 14 [[], [], [], [0], [], [], [], [4], [], [], [], [8], [11, 7, 3], []] [Form.rel (Nil0 47 11 w.heap.size), Form.val, Form.val, Form.rel (OwnR 47 11 w.heap.size s.rules.length (flatC RuleP.cells s.rules)), Form.rel (Nil0 58 2 w.heap.size), Form.val, Form.val, Form.rel (OwnR 58 2 w.heap.size s.links.length (flatC LinkP.cells s.links)), Form.rel (Nil0 9 1 w.heap.size), Form.val, Form.val, Form.rel (OwnR 9 1 w.heap.size s.shifts.length (flatC encS s.shifts)), Form.rel (Src3 w.heap.size s), Form.new (NewSrc (w.heap.size + 2))] (fun W => Blk W w.heap.size 27 #[.slice p1' s.rules.length c1', .slice p2' zs.length c2', .slice p3' s.links.length c3', .slice p4' s.shifts.length c4'] ∧ Blk W (w.heap.size + 1) 27 #[.slice none 0 0, .slice none 0 0, .slice none 0 0, .slice none 0 0] ∧ Below w.heap.size w W) (by kernel_rfl) (by kernel_rfl) rfl rfl ⟨HB0.out.1, HB0.out.2.1, HB0.out.2.2.drew⟩ (fun W W2 k hb => ⟨k.1.below hb k.1.lt, k.2.1.below hb k.2.1.lt, k.2.2.trans (hb.mono k.2.2.size)⟩) ⟨Nil0.last _ _ _, OwnR.last _ _ _ _ _, Nil0.last _ _ _, OwnR.last _ _ _ _ _, Nil0.last _ _ _, OwnR.last _ _ _ _ _, Src3.last _ _, NewSrc.last _, trivial⟩ ?_
  repeat (first | apply exSpec_rel | apply exSpec_new | apply exSpec_val)
  apply relWalk_rel rfl ?o0 (fun u0 K hK => ?n0)
  case o0 =>
    intro W hC hF
    go_simp
    refine ⟨(Below.refl _ _).alloc (Nat.le_refl _) _, ?_⟩
    exact Nil0.made W hC.2.2.size
  case' n0 =>
    go_simp
    refine hK _ ?_
    clear hK K
  apply relWalk_ex rfl ?o1 (fun K hK => ?n1)
  case o1 =>
    intro W hC hF
    have c0 := hC.1.cell_ (i := 0) rfl
    have c2 := hC.1.cell_ (i := 2) rfl
    have c3 := hC.1.cell_ (i := 3) rfl
    go_simp
    all_goals first | exact ⟨Below.refl _ _, rfl⟩ | exact Below.refl _ _
  case' n1 =>
    go_simp
    refine hK _ ?_
    clear hK K
  apply relWalk_ex rfl ?o2 (fun K hK => ?n2)
  case o2 =>
    intro W hC hF
    have c0 := hC.1.cell_ (i := 0) rfl
    have c2 := hC.1.cell_ (i := 2) rfl
    have c3 := hC.1.cell_ (i := 3) rfl
    go_simp
    all_goals first | exact ⟨Below.refl _ _, rfl⟩ | exact Below.refl _ _
  case' n2 =>
    go_simp
    refine hK _ ?_
    clear hK K
  apply relWalk_rel rfl ?o3 (fun u3 K hK => ?n3)
  case o3 =>
    intro W hC hF
    exact relAt_append0 rfl w.heap.size irule zrule 11 Tryz.underlying22 hirule hzrule hszrule hbyrule hzcrule (by decide) u0 rfl hF.1 w.heap.size _ _ _ (flatC RuleP.cells s.rules) rfl ((HRrule.out).below hC.2.2) (by exact HOrule.out) (by exact HLrule.out)
  case' n3 =>
    go_simp
    refine hK _ ?_
    clear hK K
  apply relWalk_rel rfl ?o4 (fun u4 K hK => ?n4)
  case o4 =>
    intro W hC hF
    go_simp
    refine ⟨(Below.refl _ _).alloc (Nat.le_refl _) _, ?_⟩
    exact Nil0.made W hC.2.2.size
  case' n4 =>
    go_simp
    refine hK _ ?_
    clear hK K
  apply relWalk_ex rfl ?o5 (fun K hK => ?n5)
  case o5 =>
    intro W hC hF
    have c0 := hC.1.cell_ (i := 0) rfl
    have c2 := hC.1.cell_ (i := 2) rfl
    have c3 := hC.1.cell_ (i := 3) rfl
    go_simp
    all_goals first | exact ⟨Below.refl _ _, rfl⟩ | exact Below.refl _ _
  case' n5 =>
    go_simp
    refine hK _ ?_
    clear hK K
  apply relWalk_ex rfl ?o6 (fun K hK => ?n6)
  case o6 =>
    intro W hC hF
    have c0 := hC.1.cell_ (i := 0) rfl
    have c2 := hC.1.cell_ (i := 2) rfl
    have c3 := hC.1.cell_ (i := 3) rfl
    go_simp
    all_goals first | exact ⟨Below.refl _ _, rfl⟩ | exact Below.refl _ _
  case' n6 =>
    go_simp
    refine hK _ ?_
    clear hK K
  apply relWalk_rel rfl ?o7 (fun u7 K hK => ?n7)
  case o7 =>
    intro W hC hF
    exact relAt_append0 rfl w.heap.size ilink zlink 2 Tryz.underlying24 hilink hzlink hszlink hbylink hzclink (by decide) u4 rfl hF.1 w.heap.size _ _ _ (flatC LinkP.cells s.links) rfl ((HRlink.out).below hC.2.2) (by exact HOlink.out) (by exact HLlink.out)
  case' n7 =>
    go_simp
    refine hK _ ?_
    clear hK K
  apply relWalk_rel rfl ?o8 (fun u8 K hK => ?n8)
  case o8 =>
    intro W hC hF
    go_simp
    refine ⟨(Below.refl _ _).alloc (Nat.le_refl _) _, ?_⟩
    exact Nil0.made W hC.2.2.size
  case' n8 =>
    go_simp
    refine hK _ ?_
    clear hK K
  apply relWalk_ex rfl ?o9 (fun K hK => ?n9)
  case o9 =>
    intro W hC hF
    have c0 := hC.1.cell_ (i := 0) rfl
    have c2 := hC.1.cell_ (i := 2) rfl
    have c3 := hC.1.cell_ (i := 3) rfl
    go_simp
    all_goals first | exact ⟨Below.refl _ _, rfl⟩ | exact Below.refl _ _
  case' n9 =>
    go_simp
    refine hK _ ?_
    clear hK K
  apply relWalk_ex rfl ?o10 (fun K hK => ?n10)
  case o10 =>
    intro W hC hF
    have c0 := hC.1.cell_ (i := 0) rfl
    have c2 := hC.1.cell_ (i := 2) rfl
    have c3 := hC.1.cell_ (i := 3) rfl
    go_simp
    all_goals first | exact ⟨Below.refl _ _, rfl⟩ | exact Below.refl _ _
  case' n10 =>
    go_simp
    refine hK _ ?_
    clear hK K
  apply relWalk_rel rfl ?o11 (fun u11 K hK => ?n11)
  case o11 =>
    intro W hC hF
    exact relAt_append0 rfl w.heap.size istr zstr 1 Tryz.underlying25 histr hzstr hszstr hbystr hzcstr (by decide) u8 rfl hF.1 w.heap.size _ _ _ (flatC encS s.shifts) rfl ((HRstr.out).below hC.2.2) (by exact HOstr.out) (by exact HLstr.out)
  case' n11 =>
    go_simp
    refine hK _ ?_
    clear hK K
  apply relWalk_rel rfl ?o12 (fun u12 K hK => ?n12)
  case o12 =>
    intro W hC hF
    obtain ⟨h11, h7, h3, -⟩ := hF
    obtain ⟨p3, d3, rfl⟩ := own_form h3
    obtain ⟨p7, d7, rfl⟩ := own_form h7
    obtain ⟨p11, d11, rfl⟩ := own_form h11
    have HA := Lib.hid (And.intro h3 (And.intro h7 h11))
    clear h3 h7 h11
    go_simp
    exact ⟨Below.refl _ _, _, _, _, rfl, HA.out⟩
  case' n12 =>
    go_simp
    refine hK _ ?_
    clear hK K
  apply relWalk_new rfl ?o13 (fun u13 K hK => ?n13)
  case o13 =>
    intro W hC hF
    have hz2 := hC.2.1.lt
    go_simp
    exact ⟨(Below.refl _ _).alloc (Nat.le_refl _) _, ⟨_, rfl, Blk.new' _ _ _ rfl, by omega⟩, W.heap.size, rfl, Nat.le_refl _, by simp⟩
  case' n13 =>
    go_simp
    refine hK _ ?_
    clear hK K
  apply relWalk_end
  intro W hC hF hU
  obtain ⟨⟨g, rfl, hg, hge⟩, ⟨v1, v3, v4, rfl, h3⟩, -⟩ := hF
  have HS := Lib.hid (show CL w #[.slice p1' s.rules.length c1', .slice p2' zs.length c2', .slice p3' s.links.length c3', .slice p4' s.shifts.length c4'] s g v1 v3 v4 (.slice none 0 0) [] ((((W.setCell ⟨g, 0, none⟩ v1).setCell ⟨g, 1, none⟩ (.slice none 0 0)).setCell ⟨g, 2, none⟩ v3).setCell ⟨g, 3, none⟩ v4) from by
    have b1 := hg.set_ 0 v1
    have b2 := b1.set_ 1 (.slice none 0 0)
    have b3 := b2.set_ 2 v3
    have fr : ∀ {T k n : Nat} {v : Value} {xs : List Value}, T ≠ 27 → W.ownsRow w.heap.size T k v n xs → ((((W.setCell ⟨g, 0, none⟩ v1).setCell ⟨g, 1, none⟩ (.slice none 0 0)).setCell ⟨g, 2, none⟩ v3).setCell ⟨g, 3, none⟩ v4).ownsRow w.heap.size T k v n xs := fun hne ho => own_farT (own_farT (own_farT (own_farT ho hg hne _) b1 hne _) b2 hne _) b3 hne _
    exact ⟨(((hC.1.far (by simp; omega) _).far (by simp; omega) _).far (by simp; omega) _).far (by simp; omega) _, (((hC.2.1.far (by simp; omega) _).far (by simp; omega) _).far (by simp; omega) _).far (by simp; omega) _, (((hC.2.2.setCell (by show w.heap.size ≤ g; omega) _).setCell (by show w.heap.size ≤ g; omega) _).setCell (by show w.heap.size ≤ g; omega) _).setCell (by show w.heap.size ≤ g; omega) _, hge, b3.set_ 3 v4, fr (by decide) h3.1, World.ownsRow_nil .., fr (by decide) h3.2.1, fr (by decide) h3.2.2, fun q hq => absurd hq List.not_mem_nil⟩)
  have s0 := hg.cell_ (i := 0) rfl
  have s1 := hg.cell_ (i := 1) rfl
  have s2 := hg.cell_ (i := 2) rfl
  have s3 := hg.cell_ (i := 3) rfl
  have f0 := hg.frozen 0
  have f1 := hg.frozen 1
  have f2 := hg.frozen 2
  have f3 := hg.frozen 3
  obtain ⟨q1, d1, rfl⟩ := own_form h3.1
  obtain ⟨q3, d3, rfl⟩ := own_form h3.2.1
  obtain ⟨q4, d4, rfl⟩ := own_form h3.2.2
  clear hU hC hg h3
  go_wp2_with fail
  go_loopw [4] (fun i wr => ∃ (k : Nat) (cur : List ZV) (zv : Value), k ≤ ys.length ∧ i = .int .i64 (k : Int) ∧ Hid (cur.length = k ∧ cur.map (fun q => q.1.1) = (ys.take k).map fun q => q.1.1) ∧ Hid (CL w #[.slice p1' s.rules.length c1', .slice p2' zs.length c2', .slice p3' s.links.length c3', .slice p4' s.shifts.length c4'] s g (.slice q1 s.rules.length d1) (.slice q3 s.links.length d3) (.slice q4 s.shifts.length d4) zv cur wr)) (fun i _ => ys.length - (intOf i).toNat)
  case atStart => exact ⟨0, [], _, Nat.zero_le _, rfl, Lib.hid ⟨rfl, by simp⟩, HS⟩
  case round =>
    clear HS
    obtain ⟨k, cur, zv, hk, rfl, HI, HS⟩ := hrel
    have a1 := HS.out.src.cell_ (i := 1) rfl
    have hlz : (zs.length : Int) = (ys.length : Int) := by rw [HLZ.out]
    by_cases hlt : k < ys.length
    · obtain ⟨x, hx⟩ : ∃ x, ys[k]? = some x := ⟨_, List.getElem?_eq_getElem hlt⟩
      obtain ⟨b, o, rfl, hbn, hrow⟩ := HR2.out (by intro h0; have := HLZ.out; rw [h0] at this; have h9 : ys.length = 0 := this; omega)
      obtain ⟨px, cx, hpx⟩ := x.2
      have HZN := Lib.hid (show ∀ W, Below w.heap.size w W → W.cell? ⟨b, o + k * 2, none⟩ = some (.string ⟨x.1.1.name.toArray⟩) from fun W hW => (hW.cell (p := ⟨b, o + k * 2, none⟩) hbn).trans (by have := hrow k x hx 0 _ rfl; simpa using this))
      have HZE := Lib.hid (show ∀ W, Below w.heap.size w W → W.cell? ⟨b, o + k * 2 + 1, none⟩ = some (.slice px x.1.1.eras.length cx) from fun W hW => (hW.cell (p := ⟨b, o + k * 2 + 1, none⟩) hbn).trans (by have := hrow k x hx 1 _ rfl; rw [this]; exact congrArg some hpx))
      have hE := HER.out x (List.mem_of_getElem? hx)
      rw [hpx] at hE
      have HRE := Lib.hid (RowsAt.reads (by decide) (fun x => (eraOk_cells x).1) hE.1)
      have HOE := Lib.hid (flatC_one (fun x => (eraOk_cells x).2) x.1.1.eras)
      have HLE := Lib.hid hE.2
      have hd : decide ((k : Int) < (ys.length : Int)) = true := by simp; omega
      have k0 : (0 : Int) ≤ (k : Int) := by omega
      have kl : (k : Int) < (zs.length : Int) := by rw [hlz]; omega
      have hcl : cur.length ≤ 1048576 := by rw [HI.out.1]; omega
      have HX := Lib.hid hx
      clear hE hrow hx HRrule HRlink HRstr HOrule HOlink HOstr hbn
      obtain ⟨L, hL⟩ : ∃ L, wr.heap.size = L := ⟨_, rfl⟩
      have HLL := Lib.hid (show Low L zv from fun g hg => by rw [← hL]; exact (World.ownsRow.lt HS.out.sb.zone g hg).2)
      obtain ⟨qz, dz, rfl⟩ := own_form HS.out.sb.zone
      go_upto_region 5 with fail
      refine wp_region_relsG 20 [[], [], [], [], [], [], [], [], [], [], [], [], [], [], [], [8], [15], [16], [17], []] [Form.val, Form.val, Form.val, Form.val, Form.val, Form.val, Form.val, Form.val, Form.rel (Nil0 55 13 L), Form.val, Form.val, Form.val, Form.val, Form.val, Form.val, Form.rel (OwnR 55 13 L x.1.1.eras.length (flatC EraP.cells x.1.1.eras)), Form.rel (ZNew L x.1.1), Form.rel (ZRow1 L x.1.1), Form.rel (ZPush w.heap.size L x.1.1 cur), Form.val] (fun W => CL w #[.slice p1' s.rules.length c1', .slice (some ⟨b, o, none⟩) zs.length c2', .slice p3' s.links.length c3', .slice p4' s.shifts.length c4'] s g (.slice q1 s.rules.length d1) (.slice q3 s.links.length d3) (.slice q4 s.shifts.length d4) (.slice qz cur.length dz) cur W ∧ L ≤ W.heap.size) (GOwn 50 2 w.heap.size cur.length (flatC encZV cur) (.slice qz cur.length dz)) 18 (by kernel_rfl) (by kernel_rfl) rfl rfl ⟨HS.out.below (Below.refl _ _).drew, by rw [← hL]; exact Nat.le_refl _⟩ GOwn.of_below (fun W W2 h => h.1.size) (fun W W2 k h => ⟨k.1.grown h, Nat.le_trans k.2 h.1.size⟩) ⟨lastsG_nil0 HLL.out, lastsG_own HLL.out, lastsG_znew HLL.out, lastsG_zrow1 HLL.out, ZPush.last _ _ _ _, trivial⟩ ?_
      repeat (first | apply exSpec_rel | apply exSpec_new | apply exSpec_val)
      apply relWalkR_ex rfl rfl ?oy0 (fun K hK => ?ny0)
      case oy0 =>
        intro W hC hF
        have c1 := hC.1.src.cell_ (i := 1) rfl
        have d1 := hC.1.sb.out.cell_ (i := 1) rfl
        have e0 := HZN.out W hC.1.bel
        have e1 := HZE.out W hC.1.bel
        go_simp
        all_goals first | exact ⟨Below.refl _ _, rfl⟩ | exact Below.refl _ _
      case' ny0 =>
        go_simp
        refine hK _ ?_
        clear hK K
      apply relWalkR_ex rfl rfl ?oy1 (fun K hK => ?ny1)
      case oy1 =>
        intro W hC hF
        have c1 := hC.1.src.cell_ (i := 1) rfl
        have d1 := hC.1.sb.out.cell_ (i := 1) rfl
        have e0 := HZN.out W hC.1.bel
        have e1 := HZE.out W hC.1.bel
        go_simp
        all_goals first | exact ⟨Below.refl _ _, rfl⟩ | exact Below.refl _ _
      case' ny1 =>
        go_simp
        refine hK _ ?_
        clear hK K
      apply relWalkR_ex rfl rfl ?oy2 (fun K hK => ?ny2)
      case oy2 =>
        intro W hC hF
        have c1 := hC.1.src.cell_ (i := 1) rfl
        have d1 := hC.1.sb.out.cell_ (i := 1) rfl
        have e0 := HZN.out W hC.1.bel
        have e1 := HZE.out W hC.1.bel
        go_simp
        all_goals first | exact ⟨Below.refl _ _, rfl⟩ | exact Below.refl _ _
      case' ny2 =>
        go_simp
        refine hK _ ?_
        clear hK K
      apply relWalkR_ex rfl rfl ?oy3 (fun K hK => ?ny3)
      case oy3 =>
        intro W hC hF
        have c1 := hC.1.src.cell_ (i := 1) rfl
        have d1 := hC.1.sb.out.cell_ (i := 1) rfl
        have e0 := HZN.out W hC.1.bel
        have e1 := HZE.out W hC.1.bel
        go_simp
        all_goals first | exact ⟨Below.refl _ _, rfl⟩ | exact Below.refl _ _
      case' ny3 =>
        go_simp
        refine hK _ ?_
        clear hK K
      apply relWalkR_ex rfl rfl ?oy4 (fun K hK => ?ny4)
      case oy4 =>
        intro W hC hF
        have c1 := hC.1.src.cell_ (i := 1) rfl
        have d1 := hC.1.sb.out.cell_ (i := 1) rfl
        have e0 := HZN.out W hC.1.bel
        have e1 := HZE.out W hC.1.bel
        go_simp
        all_goals first | exact ⟨Below.refl _ _, rfl⟩ | exact Below.refl _ _
      case' ny4 =>
        go_simp
        refine hK _ ?_
        clear hK K
      apply relWalkR_ex rfl rfl ?oy5 (fun K hK => ?ny5)
      case oy5 =>
        intro W hC hF
        have c1 := hC.1.src.cell_ (i := 1) rfl
        have d1 := hC.1.sb.out.cell_ (i := 1) rfl
        have e0 := HZN.out W hC.1.bel
        have e1 := HZE.out W hC.1.bel
        go_simp
        all_goals first | exact ⟨Below.refl _ _, rfl⟩ | exact Below.refl _ _
      case' ny5 =>
        go_simp
        refine hK _ ?_
        clear hK K
      apply relWalkR_ex rfl rfl ?oy6 (fun K hK => ?ny6)
      case oy6 =>
        intro W hC hF
        have c1 := hC.1.src.cell_ (i := 1) rfl
        have d1 := hC.1.sb.out.cell_ (i := 1) rfl
        have e0 := HZN.out W hC.1.bel
        have e1 := HZE.out W hC.1.bel
        go_simp
        all_goals first | exact ⟨Below.refl _ _, rfl⟩ | exact Below.refl _ _
      case' ny6 =>
        go_simp
        refine hK _ ?_
        clear hK K
      apply relWalkR_ex rfl rfl ?oy7 (fun K hK => ?ny7)
      case oy7 =>
        intro W hC hF
        have c1 := hC.1.src.cell_ (i := 1) rfl
        have d1 := hC.1.sb.out.cell_ (i := 1) rfl
        have e0 := HZN.out W hC.1.bel
        have e1 := HZE.out W hC.1.bel
        go_simp
        all_goals first | exact ⟨Below.refl _ _, rfl⟩ | exact Below.refl _ _
      case' ny7 =>
        go_simp
        refine hK _ ?_
        clear hK K
      apply relWalkR_rel rfl rfl ?oy8 (fun u8 K hK => ?ny8)
      case oy8 =>
        intro W hC hF
        go_simp
        refine ⟨(Below.refl _ _).alloc (Nat.le_refl _) _, ?_⟩
        exact Nil0.made W hC.2
      case' ny8 =>
        go_simp
        refine hK _ ?_
        clear hK K
      apply relWalkR_ex rfl rfl ?oy9 (fun K hK => ?ny9)
      case oy9 =>
        intro W hC hF
        have c1 := hC.1.src.cell_ (i := 1) rfl
        have d1 := hC.1.sb.out.cell_ (i := 1) rfl
        have e0 := HZN.out W hC.1.bel
        have e1 := HZE.out W hC.1.bel
        go_simp
        all_goals first | exact ⟨Below.refl _ _, rfl⟩ | exact Below.refl _ _
      case' ny9 =>
        go_simp
        refine hK _ ?_
        clear hK K
      apply relWalkR_ex rfl rfl ?oy10 (fun K hK => ?ny10)
      case oy10 =>
        intro W hC hF
        have c1 := hC.1.src.cell_ (i := 1) rfl
        have d1 := hC.1.sb.out.cell_ (i := 1) rfl
        have e0 := HZN.out W hC.1.bel
        have e1 := HZE.out W hC.1.bel
        go_simp
        all_goals first | exact ⟨Below.refl _ _, rfl⟩ | exact Below.refl _ _
      case' ny10 =>
        go_simp
        refine hK _ ?_
        clear hK K
      apply relWalkR_ex rfl rfl ?oy11 (fun K hK => ?ny11)
      case oy11 =>
        intro W hC hF
        have c1 := hC.1.src.cell_ (i := 1) rfl
        have d1 := hC.1.sb.out.cell_ (i := 1) rfl
        have e0 := HZN.out W hC.1.bel
        have e1 := HZE.out W hC.1.bel
        go_simp
        all_goals first | exact ⟨Below.refl _ _, rfl⟩ | exact Below.refl _ _
      case' ny11 =>
        go_simp
        refine hK _ ?_
        clear hK K
      apply relWalkR_ex rfl rfl ?oy12 (fun K hK => ?ny12)
      case oy12 =>
        intro W hC hF
        have c1 := hC.1.src.cell_ (i := 1) rfl
        have d1 := hC.1.sb.out.cell_ (i := 1) rfl
        have e0 := HZN.out W hC.1.bel
        have e1 := HZE.out W hC.1.bel
        go_simp
        all_goals first | exact ⟨Below.refl _ _, rfl⟩ | exact Below.refl _ _
      case' ny12 =>
        go_simp
        refine hK _ ?_
        clear hK K
      apply relWalkR_ex rfl rfl ?oy13 (fun K hK => ?ny13)
      case oy13 =>
        intro W hC hF
        have c1 := hC.1.src.cell_ (i := 1) rfl
        have d1 := hC.1.sb.out.cell_ (i := 1) rfl
        have e0 := HZN.out W hC.1.bel
        have e1 := HZE.out W hC.1.bel
        go_simp
        all_goals first | exact ⟨Below.refl _ _, rfl⟩ | exact Below.refl _ _
      case' ny13 =>
        go_simp
        refine hK _ ?_
        clear hK K
      apply relWalkR_ex rfl rfl ?oy14 (fun K hK => ?ny14)
      case oy14 =>
        intro W hC hF
        have c1 := hC.1.src.cell_ (i := 1) rfl
        have d1 := hC.1.sb.out.cell_ (i := 1) rfl
        have e0 := HZN.out W hC.1.bel
        have e1 := HZE.out W hC.1.bel
        go_simp
        all_goals first | exact ⟨Below.refl _ _, rfl⟩ | exact Below.refl _ _
      case' ny14 =>
        go_simp
        refine hK _ ?_
        clear hK K
      apply relWalkR_rel rfl rfl ?oy15 (fun u15 K hK => ?ny15)
      case oy15 =>
        intro W hC hF
        exact relAt_append0 rfl L iera zera 13 Tryz.underlying48 hiera hzera hszera hbyera hzcera (by decide) u8 rfl hF.1 w.heap.size _ _ _ (flatC EraP.cells x.1.1.eras) rfl (HRE.out.below hC.1.bel) (by exact HOE.out) (by exact HLE.out)
      case' ny15 =>
        go_simp
        refine hK _ ?_
        clear hK K
      apply relWalkR_rel rfl rfl ?oy16 (fun u16 K hK => ?ny16)
      case oy16 =>
        intro W hC hF
        obtain ⟨h15, -⟩ := hF
        obtain ⟨p15, d15, rfl⟩ := own_form h15
        have HA := Lib.hid h15
        clear h15
        go_simp
        exact ⟨Below.refl _ _, _, rfl, HA.out⟩
      case' ny16 =>
        go_simp
        refine hK _ ?_
        clear hK K
      apply relWalkR_rel rfl rfl ?oy17 (fun u17 K hK => ?ny17)
      case oy17 =>
        intro W hC hF
        obtain ⟨⟨v, rfl, h16⟩, -⟩ := hF
        obtain ⟨p15, d15, rfl⟩ := own_form h16
        have HA := Lib.hid h16
        clear h16
        go_simp
        exact ⟨(Below.refl _ _).alloc (Nat.le_refl _) _, _, ⟨_, rfl, Blk.new' _ _ _ rfl, hC.2⟩, World.ownsRow.alloc HA.out _⟩
      case' ny17 =>
        go_simp
        refine hK _ ?_
        clear hK K
      apply relWalkR_wr rfl rfl ?oy18 (fun u18 K hK => ?ny18)
      case oy18 =>
        intro W hC hF
        obtain ⟨⟨v, ⟨g1, rfl, hb1, hg1⟩, h17⟩, -⟩ := hF
        obtain ⟨p17, d17, rfl⟩ := own_form h17
        refine relAtR_push rfl w.heap.size izone zzone 2 Tryz.underlying23 hizone hzzone hszzone hbyzone hzczone (by decide) (.slice qz cur.length dz) cur.length (flatC encZV cur) rfl hC.1.sb.zone g1 1 #[.string ⟨x.1.1.name.toArray⟩, .slice p17 x.1.1.eras.length d17] rfl hb1 rfl (by simp [Value.oneCell']) hcl hC.1.bel.size (fun v' w' hown hG => ?_)
        refine ⟨⟨(x.1.1, .slice p17 x.1.1.eras.length d17), p17, d17, rfl⟩, rfl, ?_, lastsG_own HLL.out _ _ _ hG h17⟩
        show World.ownsRow _ _ _ _ _ _ _
        rw [List.length_append, flatC_snoc]
        exact hown
      case' ny18 =>
        go_simp
        refine hK _ ?_
        clear hK K
      apply relWalkR_ex rfl rfl ?oy19 (fun K hK => ?ny19)
      case oy19 =>
        intro W hC hF
        have c1 := hC.1.src.cell_ (i := 1) rfl
        have d1 := hC.1.sb.out.cell_ (i := 1) rfl
        have e0 := HZN.out W hC.1.bel
        have e1 := HZE.out W hC.1.bel
        go_simp
        all_goals first | exact ⟨Below.refl _ _, rfl⟩ | exact Below.refl _ _
      case' ny19 =>
        go_simp
        refine hK _ ?_
        clear hK K
      apply relWalkR_end
      intro W hC hF hU
      obtain ⟨⟨x', hx', hz1, hz2⟩, -⟩ := hF
      have HS9 := Lib.hid (show CL w #[.slice p1' s.rules.length c1', .slice (some ⟨b, o, none⟩) zs.length c2', .slice p3' s.links.length c3', .slice p4' s.shifts.length c4'] s g (.slice q1 s.rules.length d1) (.slice q3 s.links.length d3) (.slice q4 s.shifts.length d4) u18 (cur ++ [x']) (W.setCell ⟨g, 1, none⟩ u18) from by
        have hge := hC.1.ge
        refine ⟨hC.1.src.far (by simp; omega) _, hC.1.res.far (by simp; omega) _, hC.1.bel.setCell (by show w.heap.size ≤ g; omega) _, hge, hC.1.sb.szone hz1 ?_⟩
        rw [hx']
        exact own_mono hz2 (by rw [← hL]; exact HS.out.bel.size))
      have HI9 := Lib.hid (show (cur ++ [x']).length = k + 1 ∧ (cur ++ [x']).map (fun q => q.1.1) = (ys.take (k + 1)).map fun q => q.1.1 from by
        refine ⟨by rw [List.length_append, HI.out.1]; rfl, ?_⟩
        rw [List.map_append, HI.out.2, List.take_add_one, HX.out, List.map_append]
        simp [hx'])
      have s1 := hC.1.sb.out.cell_ (i := 1) rfl
      have f1 := hC.1.sb.out.frozen 1
      obtain ⟨q9, d9, rfl⟩ := own_form hz1
      rw [show (cur ++ [x']).length = cur.length + 1 from by simp] at HS9
      clear hU hC hz1 hz2 HS HI HZN HZE HRE HOE HLE HX HLL hL hx'
      go_wp2_with fail
      go_roundw
      case rel => exact ⟨k + 1, _, _, by omega, by go_num, HI9, HS9⟩
      case measure => simp [intOf]; omega
    · obtain rfl : k = ys.length := by omega
      have hd : decide ((ys.length : Int) < (ys.length : Int)) = false := by simp
      clear HRrule HRlink HRstr HOrule HOlink HOstr HR2 HER hlt hk
      obtain ⟨qz, dz, rfl⟩ := own_form HS.out.sb.zone
      have s0 := HS.out.sb.out.cell_ (i := 0) rfl
      have s1 := HS.out.sb.out.cell_ (i := 1) rfl
      have s2 := HS.out.sb.out.cell_ (i := 2) rfl
      have s3 := HS.out.sb.out.cell_ (i := 3) rfl
      have t0 := HS.out.res.cell_ (i := 0) rfl
      have t1 := HS.out.res.cell_ (i := 1) rfl
      have t2 := HS.out.res.cell_ (i := 2) rfl
      have t3 := HS.out.res.cell_ (i := 3) rfl
      have f0 := HS.out.res.frozen 0
      have f1 := HS.out.res.frozen 1
      have f2 := HS.out.res.frozen 2
      have f3 := HS.out.res.frozen 3
      go_wp2_with fail
      have es : (⟨s.rules, cur.map (fun q => q.1.1), s.links, s.shifts⟩ : SourceP) = s := by rw [HI.out.2, List.take_length, HEY.out]
      have hT : 47 ≠ 27 ∧ 50 ≠ 27 ∧ 58 ≠ 27 ∧ 9 ≠ 27 ∧ 55 ≠ 27 := by decide
      have hg : g ≠ w.heap.size + 1 := by have := HS.out.ge; omega
      have r0 := HS.out.res
      have r1 := r0.set_ 0 (.slice q1 s.rules.length d1)
      have r2 := r1.set_ 1 (.slice qz cur.length dz)
      have r3 := r2.set_ 2 (.slice q3 s.links.length d3)
      have bF := r3.set_ 3 (.slice q4 s.shifts.length d4)
      have sF := ((((HS.out.sb.far r0 hT hg (j := 0) (.slice q1 s.rules.length d1)).far r1 hT hg (j := 1) (.slice qz cur.length dz)).far r2 hT hg (j := 2) (.slice q3 s.links.length d3)).far r3 hT hg (j := 3) (.slice q4 s.shifts.length d4)).src
      rw [es] at sF
      have hge1 : w.heap.size ≤ w.heap.size + 1 := by omega
      refine bodyPost_ret (results_cell_row rfl _ _ (w.heap.size + 1) 27 #[.slice q1 s.rules.length d1, .slice qz cur.length dz, .slice q3 s.links.length d3, .slice q4 s.shifts.length d4] (0, 0) _ rfl bF Tryz.underlying27 rfl (by kernel_rfl)) rfl ⟨⟨_, _, _, _, _, rfl, sF⟩, (((HS.out.bel.setCell hge1 _).setCell hge1 _).setCell hge1 _).setCell hge1 _⟩
end Go.Proofs.YtmcgbjjcpcgcfaaGreatDoor
