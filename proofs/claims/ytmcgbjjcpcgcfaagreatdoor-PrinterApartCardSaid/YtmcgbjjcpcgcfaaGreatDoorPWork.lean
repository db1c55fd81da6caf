/-
  The source of the example in the law of layer 14: eire.
  fails and works of the law of layer 14.
-/
import Derived.Test.YtmcgbjjcpcgcfaaGreatDoorPCopies
import Derived.Laws.MakeOwn
set_option linter.unusedVariables false
namespace Go.Proofs.YtmcgbjjcpcgcfaaGreatDoor
open Go.RowKit Go.Shelf

/-- a literal row as a list of rows -/
theorem rows_lit {α : Type} {enc : α → Array Value} {k : Nat} (hk : 0 < k) (hs : ∀ x, (enc x).size = k) (W : World) (T : TypeId) (l : List α) (c : Nat) (cs : Array Value) (hc : cs = (flatC enc l).toArray) : RowsAt (W.alloc (.cells cs T)) (W.heap.size + 1) k enc (.slice (some ⟨W.heap.size, 0, none⟩) l.length c) l := by
  subst hc
  refine ⟨_, c, rfl, fun _ => ⟨W.heap.size, 0, rfl, by omega, fun i x hx j u hu => ?_⟩⟩
  have hj : j < k := by
    rcases Nat.lt_or_ge j k with h | h
    · exact h
    · rw [List.getElem?_eq_none (by simp [hs]; exact h)] at hu; cases hu
  rw [Nat.zero_add]
  refine (Blk.new' W T _ rfl).cell_ ?_
  rw [List.getElem?_toArray, flatC_at hs l i j x hx hj]
  exact hu
/-- a list of rows, as a value, in a block from B on -/
def RowV {α : Type} (B k : Nat) (enc : α → Array Value) (l : List α) (v : Value) (W : World) : Prop := RowsAt W W.heap.size k enc v l ∧ ∀ b o n c, v = .slice (some ⟨b, o, none⟩) n c → B ≤ b
theorem RowV.last {α : Type} (B k : Nat) (enc : α → Array Value) (l : List α) : Lasts (RowV B k enc l) := fun _ _ _ hb h => ⟨(RowsAt.below h.1 hb).mono hb.size, h.2⟩
theorem RowV.below {α : Type} {B k : Nat} {enc : α → Array Value} {l : List α} {v : Value} {W W' : World} (h : RowV B k enc l v W) (hb : Below W.heap.size W W') : RowV B k enc l v W' := ⟨(RowsAt.below h.1 hb).mono hb.size, h.2⟩
theorem RowV.set {α : Type} {B k q j : Nat} {enc : α → Array Value} {l : List α} {v : Value} {W : World} (h : RowV B k enc l v W) (hq : q < B) (u : Value) : RowV B k enc l v (W.setCell ⟨q, j, none⟩ u) := by
  obtain ⟨⟨p, c, e, h2⟩, h3⟩ := h
  refine ⟨⟨p, c, e, fun h0 => ?_⟩, h3⟩
  obtain ⟨b, o, e2, hlt, h4⟩ := h2 h0
  have hB := h3 b o _ _ (by rw [e, e2])
  exact ⟨b, o, e2, by simpa using hlt, fun i x hx j u hu => (World.cell?_setCell_other _ _ _ _ (by intro k; injection k with k; omega)).trans (h4 i x hx j u hu)⟩
theorem rowv_lit {α : Type} {enc : α → Array Value} {k : Nat} (hk : 0 < k) (hs : ∀ x, (enc x).size = k) (B : Nat) (W : World) (T : TypeId) (l : List α) (c : Nat) (cs : Array Value) (hc : cs = (flatC enc l).toArray) (hB : B ≤ W.heap.size) : RowV B k enc l (.slice (some ⟨W.heap.size, 0, none⟩) l.length c) (W.alloc (.cells cs T)) :=
  ⟨(rows_lit hk hs W T l c cs hc).mono (by simp), fun b o n c e => by injection e with e1 _ _; injection e1 with e1; injection e1 with e1 _ _; omega⟩
/-- a zone, as a value -/
def ZoneV (B : Nat) (z : ZoneP) (v : Value) (W : World) : Prop := ∃ p n c, v = .agg (encZ (z, .slice p n c)) ∧ RowV B 13 EraP.cells z.eras (.slice p n c) W
theorem ZoneV.last (B : Nat) (z : ZoneP) : Lasts (ZoneV B z) := fun _ _ _ hb ⟨p, n, c, e, h⟩ => ⟨p, n, c, e, h.below hb⟩
/-- one zone in a row -/
def ZonesV (B : Nat) (z : ZoneP) (v : Value) (W : World) : Prop := ∃ p n c, RowV B 2 encZ [(z, .slice p n c)] v W ∧ RowV B 13 EraP.cells z.eras (.slice p n c) W
theorem ZonesV.last (B : Nat) (z : ZoneP) : Lasts (ZonesV B z) := fun _ _ _ hb ⟨p, n, c, e, h⟩ => ⟨p, n, c, e.below hb, h.below hb⟩
/-- a source, as a value -/
def SrcV (s : SourceP) (v : Value) (W : World) : Prop := ∃ r z l h zs, v = .agg #[r, z, l, h] ∧ SrcIs W W.heap.size r z l h zs s
theorem SrcV.last (s : SourceP) : Lasts (SrcV s) := fun _ _ _ hb ⟨r, z, l, h, zs, e, k⟩ => ⟨r, z, l, h, zs, e, k.now hb⟩
theorem SrcV.below {s : SourceP} {v : Value} {w w' : World} (h : SrcV s v w) (hb : Below w.heap.size w w') : SrcV s v w' := SrcV.last s v w w' hb h
theorem nil_rows {α : Type} (W : World) (n k : Nat) (enc : α → Array Value) : RowsAt W n k enc (.slice none 0 0) [] := ⟨none, 0, rfl, fun h => absurd rfl h⟩

set_option maxRecDepth 100000 in
set_option maxHeartbeats 400000 in
theorem eutc_any (s : Int) (w : World) : Calls Tryz.prog 69 #[.int .i64 s] w fun e w' => e = .returned (.agg #[.int .i64 s, .int .i64 2]) ∧ Below w.heap.size w w' := by
  go_enter Tryz.func69, Tryz.ntmps69
  go_wp2_with fail
  refine bodyPost_ret (by simp [results, Tryz.results69, go_sem]) rfl ⟨rfl, by go_grown⟩
def eRules : List RuleP := [⟨[69, 105, 114, 101], 1971, 1971, 10, (1, 0, 31), (7200, 2), -3600, []⟩, ⟨[69, 105, 114, 101], 1972, 1048576, 3, (3, 0, 15), (7200, 2), 0, []⟩, ⟨[69, 105, 114, 101], 1972, 1048576, 10, (2, 0, 0), (3600, 2), -3600, []⟩]
def eEras : List EraP := [⟨0, 0, 0, [], [71, 77, 84], ⟨true, 1968, 10, (1, 0, 27), (0, 0)⟩⟩, ⟨3600, 2, 0, [69, 105, 114, 101], [73, 83, 84, 47, 71, 77, 84], ⟨false, 0, 0, (0, 0, 0), (0, 0)⟩⟩]
def eirePS : SourceP := ⟨eRules, [⟨[69, 117, 114, 111, 112, 101, 47, 68, 117, 98, 108, 105, 110], eEras⟩], [], []⟩

def ESt (w : World) (Bu : Nat) (d1 d2 d3 : Int) (W : World) : Prop := Blk W w.heap.size 43 #[.int .i64 d1, .int .i64 d2, .int .i64 d3] ∧ Blk W (w.heap.size + 1) 47 #[.string ⟨#[]⟩, .int .i64 0, .int .i64 0, .int .i64 0, .int .i64 0, .int .i64 0, .int .i64 0, .int .i64 0, .int .i64 0, .int .i64 0, .string ⟨#[]⟩] ∧ Below w.heap.size w W ∧ W.cell? ⟨Bu, 0, none⟩ = some (.func (.func 69) #[] #[]) ∧ Bu < w.heap.size
theorem ESt.below {w W W' : World} {Bu : Nat} {d1 d2 d3 : Int} (h : ESt w Bu d1 d2 d3 W) (hb : Below W.heap.size W W') : ESt w Bu d1 d2 d3 W' :=
  ⟨h.1.below hb h.1.lt, h.2.1.below hb h.2.1.lt, h.2.2.1.trans (hb.mono h.2.2.1.size), (hb.cell (block_lt_of_cell h.2.2.2.1)).trans h.2.2.2.1, h.2.2.2.2⟩
theorem ESt.drew {w W : World} {Bu : Nat} {d1 d2 d3 : Int} (h : ESt w Bu d1 d2 d3 W) : ESt w Bu d1 d2 d3 W.drew := h.below (Below.refl _ _).drew
theorem rule_one (a b : ByteArray) (x1 x2 x3 x4 x5 x6 x7 x8 x9 : Int) : (#[.string a, .int .i64 x1, .int .i64 x2, .int .i64 x3, .int .i64 x4, .int .i64 x5, .int .i64 x6, .int .i64 x7, .int .i64 x8, .int .i64 x9, .string b] : Array Value).all (·.oneCell') = true := by simp [Value.oneCell']
set_option maxRecDepth 100000 in
set_option maxHeartbeats 2000000 in
theorem erule_any (fr tl mo d1 d2 d3 at_ sv : Int) (Bu : Nat) (w : World) (hu : w.cell? ⟨Bu, 0, none⟩ = some (.func (.func 69) #[] #[])) :
    Calls Tryz.prog 70 #[.int .i64 fr, .int .i64 tl, .int .i64 mo, .agg #[.int .i64 d1, .int .i64 d2, .int .i64 d3], .int .i64 at_, .int .i64 sv, .pointer (some ⟨Bu, 0, none⟩)] w fun e w' => e = .returned (.agg #[.string ⟨#[69, 105, 114, 101]⟩, .int .i64 fr, .int .i64 tl, .int .i64 mo, .int .i64 d1, .int .i64 d2, .int .i64 d3, .int .i64 at_, .int .i64 2, .int .i64 sv, .string ⟨#[]⟩]) ∧ Below w.heap.size w w' := by
  have HS : ESt w Bu d1 d2 d3 ((w.alloc (.cells #[.int .i64 d1, .int .i64 d2, .int .i64 d3] 43)).alloc (.cells #[.string ⟨#[]⟩, .int .i64 0, .int .i64 0, .int .i64 0, .int .i64 0, .int .i64 0, .int .i64 0, .int .i64 0, .int .i64 0, .int .i64 0, .string ⟨#[]⟩] 47)) := by
    have hb0 : Below w.heap.size w ((w.alloc (.cells #[.int .i64 d1, .int .i64 d2, .int .i64 d3] 43)).alloc (.cells #[.string ⟨#[]⟩, .int .i64 0, .int .i64 0, .int .i64 0, .int .i64 0, .int .i64 0, .int .i64 0, .int .i64 0, .int .i64 0, .int .i64 0, .string ⟨#[]⟩] 47)) := ((Below.refl _ _).alloc (Nat.le_refl _) _).alloc (by simp) _
    exact ⟨(Blk.new' _ _ _ rfl).alloc _, Blk.new' _ _ _ (by simp), hb0, (hb0.cell (block_lt_of_cell hu)).trans hu, block_lt_of_cell hu⟩
  go_enter Tryz.func70, Tryz.ntmps70
  go_upto_region 1 with fail
  refine wp_region_rels 9 [[], [], [], [], [], [], [], [], []] [Form.val, Form.val, Form.val, Form.val, Form.val, Form.val, Form.val, Form.val, Form.val] (ESt w Bu d1 d2 d3) (by kernel_rfl) (by kernel_rfl) rfl rfl (HS.drew) (fun W W2 k hb => k.below hb) trivial ?_
  repeat (first | apply exSpec_rel | apply exSpec_new | apply exSpec_val)
  apply relWalk_ex rfl ?o0 (fun K hK => ?n0)
  case o0 =>
    intro W hC hF
    have c0 := hC.1.cell_ (i := 0) rfl
    have c1 := hC.1.cell_ (i := 1) rfl
    have c2 := hC.1.cell_ (i := 2) rfl
    have cu := hC.2.2.2.1
    go_simp
    all_goals exact ⟨Below.refl _ _, rfl⟩
  case' n0 =>
    go_simp
    refine hK _ ?_
    clear hK K
  apply relWalk_ex rfl ?o1 (fun K hK => ?n1)
  case o1 =>
    intro W hC hF
    have c0 := hC.1.cell_ (i := 0) rfl
    have c1 := hC.1.cell_ (i := 1) rfl
    have c2 := hC.1.cell_ (i := 2) rfl
    have cu := hC.2.2.2.1
    go_simp
    all_goals exact ⟨Below.refl _ _, rfl⟩
  case' n1 =>
    go_simp
    refine hK _ ?_
    clear hK K
  apply relWalk_ex rfl ?o2 (fun K hK => ?n2)
  case o2 =>
    intro W hC hF
    have c0 := hC.1.cell_ (i := 0) rfl
    have c1 := hC.1.cell_ (i := 1) rfl
    have c2 := hC.1.cell_ (i := 2) rfl
    have cu := hC.2.2.2.1
    go_simp
    all_goals exact ⟨Below.refl _ _, rfl⟩
  case' n2 =>
    go_simp
    refine hK _ ?_
    clear hK K
  apply relWalk_ex rfl ?o3 (fun K hK => ?n3)
  case o3 =>
    intro W hC hF
    have c0 := hC.1.cell_ (i := 0) rfl
    have c1 := hC.1.cell_ (i := 1) rfl
    have c2 := hC.1.cell_ (i := 2) rfl
    have cu := hC.2.2.2.1
    go_simp
    all_goals exact ⟨Below.refl _ _, rfl⟩
  case' n3 =>
    go_simp
    refine hK _ ?_
    clear hK K
  apply relWalk_ex rfl ?o4 (fun K hK => ?n4)
  case o4 =>
    intro W hC hF
    have c0 := hC.1.cell_ (i := 0) rfl
    have c1 := hC.1.cell_ (i := 1) rfl
    have c2 := hC.1.cell_ (i := 2) rfl
    have cu := hC.2.2.2.1
    go_simp
    all_goals exact ⟨Below.refl _ _, rfl⟩
  case' n4 =>
    go_simp
    refine hK _ ?_
    clear hK K
  apply relWalk_ex rfl ?o5 (fun K hK => ?n5)
  case o5 =>
    intro W hC hF
    have c0 := hC.1.cell_ (i := 0) rfl
    have c1 := hC.1.cell_ (i := 1) rfl
    have c2 := hC.1.cell_ (i := 2) rfl
    have cu := hC.2.2.2.1
    go_simp
    all_goals exact ⟨Below.refl _ _, rfl⟩
  case' n5 =>
    go_simp
    refine hK _ ?_
    clear hK K
  apply relWalk_ex rfl ?o6 (fun K hK => ?n6)
  case o6 =>
    intro W hC hF
    have c0 := hC.1.cell_ (i := 0) rfl
    have c1 := hC.1.cell_ (i := 1) rfl
    have c2 := hC.1.cell_ (i := 2) rfl
    have cu := hC.2.2.2.1
    go_simp
    all_goals exact (eutc_any at_ W).mono fun e w2 ⟨he, hb⟩ => ⟨he, hb⟩
  case' n6 =>
    go_simp
    refine hK _ ?_
    clear hK K
  apply relWalk_ex rfl ?o7 (fun K hK => ?n7)
  case o7 =>
    intro W hC hF
    have c0 := hC.1.cell_ (i := 0) rfl
    have c1 := hC.1.cell_ (i := 1) rfl
    have c2 := hC.1.cell_ (i := 2) rfl
    have cu := hC.2.2.2.1
    go_simp
    all_goals exact ⟨Below.refl _ _, rfl⟩
  case' n7 =>
    go_simp
    refine hK _ ?_
    clear hK K
  apply relWalk_ex rfl ?o8 (fun K hK => ?n8)
  case o8 =>
    intro W hC hF
    have c0 := hC.1.cell_ (i := 0) rfl
    have c1 := hC.1.cell_ (i := 1) rfl
    have c2 := hC.1.cell_ (i := 2) rfl
    have cu := hC.2.2.2.1
    go_simp
    all_goals exact ⟨Below.refl _ _, rfl⟩
  case' n8 =>
    go_simp
    refine hK _ ?_
    clear hK K
  apply relWalk_end
  intro W hC hF hU
  obtain ⟨b1, b2, hB, -, -⟩ := hC
  have HA := Lib.hid (And.intro b2 hB)
  clear b1 b2 hB hF hU
  have hi : (Tryz.prog.info? 47).map (·.size) = some (#[.string ⟨#[69, 105, 114, 101]⟩, .int .i64 fr, .int .i64 tl, .int .i64 mo, .int .i64 d1, .int .i64 d2, .int .i64 d3, .int .i64 at_, .int .i64 2, .int .i64 sv, .string ⟨#[]⟩] : Array Value).size := by kernel_rfl
  have h1 : (#[.string ⟨#[69, 105, 114, 101]⟩, .int .i64 fr, .int .i64 tl, .int .i64 mo, .int .i64 d1, .int .i64 d2, .int .i64 d3, .int .i64 at_, .int .i64 2, .int .i64 sv, .string ⟨#[]⟩] : Array Value).all (·.oneCell') = true := rule_one _ _ _ _ _ _ _ _ _ _ _
  have hsz : (#[.string ⟨#[69, 105, 114, 101]⟩, .int .i64 fr, .int .i64 tl, .int .i64 mo, .int .i64 d1, .int .i64 d2, .int .i64 d3, .int .i64 at_, .int .i64 2, .int .i64 sv, .string ⟨#[]⟩] : Array Value).size = 11 := rfl
  generalize hV : (#[.string ⟨#[69, 105, 114, 101]⟩, .int .i64 fr, .int .i64 tl, .int .i64 mo, .int .i64 d1, .int .i64 d2, .int .i64 d3, .int .i64 at_, .int .i64 2, .int .i64 sv, .string ⟨#[]⟩] : Array Value) = C at *
  have HV := Lib.hid hV
  clear hV
  refine wpList_store_mid rfl 47 (.tmp 13) (.tmp 22) rfl (w.heap.size + 1) 0 C rfl rfl (HA.out.1.there (by rw [hsz]; decide)) hi h1 ?_
  go_wp2_with fail
  refine bodyPost_ret (results_cell_row rfl _ _ (w.heap.size + 1) 47 C (0, 0) _ rfl (HA.out.1.setAll C (by rw [hsz]; rfl)) Tryz.underlying47 rfl hi) ?_ ?_
  · rfl
  · exact ⟨by rw [HV.out], below_sets (by omega) _ _ _ HA.out.2⟩

theorem zones_one (B : Nat) (z : ZoneP) (p : Option Addr) (n c : Nat) (W : World) (T : TypeId) (h : RowV B 13 EraP.cells z.eras (.slice p n c) W) (hB : B ≤ W.heap.size) : ZonesV B z (.slice (some ⟨W.heap.size, 0, none⟩) 1 1) (W.alloc (.cells #[.string ⟨z.name.toArray⟩, .slice p n c] T)) := by
  refine ⟨p, n, c, ⟨⟨_, 1, rfl, fun _ => ⟨W.heap.size, 0, rfl, by simp, fun i x hx j u hu => ?_⟩⟩, fun b o n c e => by injection e with e1 _ _; injection e1 with e1; injection e1 with e1 _ _; omega⟩, h.below ((Below.refl _ _).alloc (Nat.le_refl _) _)⟩
  match i, hx with
  | 0, hx =>
    cases hx
    refine (Blk.new' W T _ rfl).cell_ ?_
    match j, hu with
    | 0, hu => cases hu; rfl
    | 1, hu => cases hu; rfl
    | j + 2, hu => simp [encZ] at hu
  | i + 1, hx => simp at hx
def EiSt (w W : World) : Prop := Blk W w.heap.size 27 #[.slice none 0 0, .slice none 0 0, .slice none 0 0, .slice none 0 0] ∧ W.cell? ⟨w.heap.size + 1, 0, none⟩ = some (.func (.func 69) #[] #[]) ∧ Blk W (w.heap.size + 2) 55 #[.int .i64 0, .int .i64 0, .int .i64 0, .string ⟨#[]⟩, .string ⟨#[71, 77, 84]⟩, .bool true, .int .i64 1968, .int .i64 10, .int .i64 1, .int .i64 0, .int .i64 27, .int .i64 0, .int .i64 0] ∧ Below w.heap.size w W
theorem EiSt.below {w W W' : World} (h : EiSt w W) (hb : Below W.heap.size W W') : EiSt w W' :=
  ⟨h.1.below hb h.1.lt, (hb.cell (block_lt_of_cell h.2.1)).trans h.2.1, h.2.2.1.below hb h.2.2.1.lt, h.2.2.2.trans (hb.mono h.2.2.2.size)⟩
theorem EiSt.drew {w W : World} (h : EiSt w W) : EiSt w W.drew := h.below (Below.refl _ _).drew
set_option maxRecDepth 100000 in
set_option maxHeartbeats 2000000 in
theorem eire_any (w : World) : Calls Tryz.prog 24 #[] w fun e w' => (∃ v, e = .returned v ∧ SrcV eirePS v w') ∧ Below w.heap.size w w' := by
  have HS : EiSt w (((w.alloc (.cells #[.slice none 0 0, .slice none 0 0, .slice none 0 0, .slice none 0 0] 27)).alloc (.cells #[.func (.func 69) #[] #[]] 114)).alloc (.cells #[.int .i64 0, .int .i64 0, .int .i64 0, .string ⟨#[]⟩, .string ⟨#[71, 77, 84]⟩, .bool true, .int .i64 1968, .int .i64 10, .int .i64 1, .int .i64 0, .int .i64 27, .int .i64 0, .int .i64 0] 55)) :=
    ⟨((Blk.new' _ _ _ rfl).alloc _).alloc _, ((Blk.new' (g := w.heap.size + 1) _ 114 #[.func (.func 69) #[] #[]] (by simp)).alloc _).cell_ rfl, Blk.new' _ _ _ (by simp), (((Below.refl _ _).alloc (Nat.le_refl _) _).alloc (by simp) _).alloc (by simp; omega) _⟩
  go_enter Tryz.func24, Tryz.ntmps24
  go_upto_region 4 with fail
  refine wp_region_rels 15 [[], [], [], [], [], [], [], [], [], [], [], [], [], [12], [13]] [Form.val, Form.val, Form.val, Form.val, Form.val, Form.val, Form.val, Form.val, Form.val, Form.rel (RowV (w.heap.size + 3) 11 RuleP.cells eRules), Form.val, Form.val, Form.rel (RowV (w.heap.size + 3) 13 EraP.cells eEras), Form.rel (ZoneV (w.heap.size + 3) (⟨[69, 117, 114, 111, 112, 101, 47, 68, 117, 98, 108, 105, 110], eEras⟩ : ZoneP)), Form.rel (ZonesV (w.heap.size + 3) (⟨[69, 117, 114, 111, 112, 101, 47, 68, 117, 98, 108, 105, 110], eEras⟩ : ZoneP))] (EiSt w) (by kernel_rfl) (by kernel_rfl) rfl rfl (HS.drew) (fun W W2 k hb => k.below hb) ⟨RowV.last _ _ _ _, RowV.last _ _ _ _, ZoneV.last _ _, ZonesV.last _ _, trivial⟩ ?_
  repeat (first | apply exSpec_rel | apply exSpec_new | apply exSpec_val)
  apply relWalk_ex rfl ?o0 (fun K hK => ?n0)
  case o0 =>
    intro W hC hF
    have cu := hC.2.1
    go_simp
    all_goals exact ⟨Below.refl _ _, rfl⟩
  case' n0 =>
    go_simp
    refine hK _ ?_
    clear hK K
  apply relWalk_ex rfl ?o1 (fun K hK => ?n1)
  case o1 =>
    intro W hC hF
    have cu := hC.2.1
    go_simp
    all_goals exact ⟨Below.refl _ _, rfl⟩
  case' n1 =>
    go_simp
    refine hK _ ?_
    clear hK K
  apply relWalk_ex rfl ?o2 (fun K hK => ?n2)
  case o2 =>
    intro W hC hF
    have cu := hC.2.1
    go_simp
    all_goals exact (erule_any _ _ _ _ _ _ _ _ _ W cu).mono fun e w2 ⟨he, hb⟩ => ⟨he, hb⟩
  case' n2 =>
    go_simp
    refine hK _ ?_
    clear hK K
  apply relWalk_ex rfl ?o3 (fun K hK => ?n3)
  case o3 =>
    intro W hC hF
    have cu := hC.2.1
    go_simp
    all_goals exact ⟨Below.refl _ _, rfl⟩
  case' n3 =>
    go_simp
    refine hK _ ?_
    clear hK K
  apply relWalk_ex rfl ?o4 (fun K hK => ?n4)
  case o4 =>
    intro W hC hF
    have cu := hC.2.1
    go_simp
    all_goals exact ⟨Below.refl _ _, rfl⟩
  case' n4 =>
    go_simp
    refine hK _ ?_
    clear hK K
  apply relWalk_ex rfl ?o5 (fun K hK => ?n5)
  case o5 =>
    intro W hC hF
    have cu := hC.2.1
    go_simp
    all_goals exact (erule_any _ _ _ _ _ _ _ _ _ W cu).mono fun e w2 ⟨he, hb⟩ => ⟨he, hb⟩
  case' n5 =>
    go_simp
    refine hK _ ?_
    clear hK K
  apply relWalk_ex rfl ?o6 (fun K hK => ?n6)
  case o6 =>
    intro W hC hF
    have cu := hC.2.1
    go_simp
    all_goals exact ⟨Below.refl _ _, rfl⟩
  case' n6 =>
    go_simp
    refine hK _ ?_
    clear hK K
  apply relWalk_ex rfl ?o7 (fun K hK => ?n7)
  case o7 =>
    intro W hC hF
    have cu := hC.2.1
    go_simp
    all_goals exact ⟨Below.refl _ _, rfl⟩
  case' n7 =>
    go_simp
    refine hK _ ?_
    clear hK K
  apply relWalk_ex rfl ?o8 (fun K hK => ?n8)
  case o8 =>
    intro W hC hF
    have cu := hC.2.1
    go_simp
    all_goals exact (erule_any _ _ _ _ _ _ _ _ _ W cu).mono fun e w2 ⟨he, hb⟩ => ⟨he, hb⟩
  case' n8 =>
    go_simp
    refine hK _ ?_
    clear hK K
  apply relWalk_rel rfl ?o9 (fun u9 K hK => ?n9)
  case o9 =>
    intro W hC hF
    have cu := hC.2.1
    go_simp
    all_goals exact ⟨(Below.refl _ _).alloc (Nat.le_refl _) _, rowv_lit (by decide) (fun x => (rule_cells x).1) _ W _ eRules 3 _ rfl hC.2.2.1.lt⟩
  case' n9 =>
    go_simp
    refine hK _ ?_
    clear hK K
  apply relWalk_ex rfl ?o10 (fun K hK => ?n10)
  case o10 =>
    intro W hC hF
    exact relAt_load 55 (.tmp 3) rfl (w.heap.size + 2) rfl 55 #[.int .i64 0, .int .i64 0, .int .i64 0, .string ⟨#[]⟩, .string ⟨#[71, 77, 84]⟩, .bool true, .int .i64 1968, .int .i64 10, .int .i64 1, .int .i64 0, .int .i64 27, .int .i64 0, .int .i64 0] _ hC.2.2.1 Tryz.underlying55 rfl (by kernel_rfl)
  case' n10 =>
    go_simp
    refine hK _ ?_
    clear hK K
  apply relWalk_ex rfl ?o11 (fun K hK => ?n11)
  case o11 =>
    intro W hC hF
    have cu := hC.2.1
    go_simp
    all_goals exact ⟨Below.refl _ _, rfl⟩
  case' n11 =>
    go_simp
    refine hK _ ?_
    clear hK K
  apply relWalk_rel rfl ?o12 (fun u12 K hK => ?n12)
  case o12 =>
    intro W hC hF
    have cu := hC.2.1
    go_simp
    all_goals exact ⟨(Below.refl _ _).alloc (Nat.le_refl _) _, rowv_lit (by decide) (fun x => (eraOk_cells x).1) _ W _ eEras 2 _ rfl hC.2.2.1.lt⟩
  case' n12 =>
    go_simp
    refine hK _ ?_
    clear hK K
  apply relWalk_rel rfl ?o13 (fun u13 K hK => ?n13)
  case o13 =>
    intro W hC hF
    obtain ⟨hr0, -⟩ := hF
    obtain ⟨p12, c12, e12⟩ := hr0.1.slice
    subst e12
    have hr12 : RowV (w.heap.size + 3) 13 EraP.cells eEras (.slice p12 2 c12) W := hr0
    have cu := hC.2.1
    go_simp
    all_goals exact ⟨Below.refl _ _, p12, 2, c12, rfl, hr12⟩
  case' n13 =>
    go_simp
    refine hK _ ?_
    clear hK K
  apply relWalk_rel rfl ?o14 (fun u14 K hK => ?n14)
  case o14 =>
    intro W hC hF
    obtain ⟨⟨p13, n13, c13, e13, hr13⟩, -⟩ := hF
    subst e13
    unfold encZ
    have cu := hC.2.1
    go_simp
    all_goals exact ⟨(Below.refl _ _).alloc (Nat.le_refl _) _, zones_one _ _ _ _ _ W _ hr13 hC.2.2.1.lt⟩
  case' n14 =>
    go_simp
    refine hK _ ?_
    clear hK K
  apply relWalk_end
  intro W hC hF hU
  obtain ⟨h14, h13, h12, h9, -⟩ := hF
  obtain ⟨q9, d9, e9⟩ := h9.1.slice
  subst e9
  obtain ⟨p13, n13, c13, hz1, hz2⟩ := h14
  obtain ⟨q14, d14, e14⟩ := hz1.1.slice
  subst e14
  have h9 : RowV (w.heap.size + 3) 11 RuleP.cells eRules (.slice q9 eRules.length d9) W := h9
  obtain ⟨b1, -, -, hB⟩ := hC
  have s0 := b1.cell_ (i := 0) rfl
  have s1 := b1.cell_ (i := 1) rfl
  have s2 := b1.cell_ (i := 2) rfl
  have s3 := b1.cell_ (i := 3) rfl
  have f0 := b1.frozen 0
  have f1 := b1.frozen 1
  have f2 := b1.frozen 2
  have f3 := b1.frozen 3
  have HA := Lib.hid (And.intro h9 (And.intro hz1 (And.intro hz2 (And.intro b1 hB))))
  clear h9 hz1 hz2 b1 hB h12 h13 hU
  go_wp2_with fail
  obtain ⟨h9, hz1, hz2, b1, hB⟩ := HA.out
  have bF := (((b1.set_ 0 (.slice q9 eRules.length d9)).set_ 1 (.slice q14 1 d14)).set_ 2 (.slice none 0 0)).set_ 3 (.slice none 0 0)
  have hq : w.heap.size < w.heap.size + 3 := by omega
  have k9 := (((h9.set (j := 0) hq (.slice q9 eRules.length d9)).set (j := 1) hq (.slice q14 1 d14)).set (j := 2) hq (.slice none 0 0)).set (j := 3) hq (.slice none 0 0)
  have k1 := (((hz1.set (j := 0) hq (.slice q9 eRules.length d9)).set (j := 1) hq (.slice q14 1 d14)).set (j := 2) hq (.slice none 0 0)).set (j := 3) hq (.slice none 0 0)
  have k2 := (((hz2.set (j := 0) hq (.slice q9 eRules.length d9)).set (j := 1) hq (.slice q14 1 d14)).set (j := 2) hq (.slice none 0 0)).set (j := 3) hq (.slice none 0 0)
  refine bodyPost_ret (results_cell_row rfl _ _ w.heap.size 27 #[.slice q9 eRules.length d9, .slice q14 1 d14, .slice none 0 0, .slice none 0 0] (0, 0) _ rfl bF Tryz.underlying27 rfl (by kernel_rfl)) ?_ ?_
  · rfl
  · refine ⟨⟨_, rfl, _, _, _, _, [_], rfl, k9.1, k1.1, rfl, fun q hq => ?_, nil_rows .., nil_rows ..⟩, (((hB.setCell (Nat.le_refl _) _).setCell (Nat.le_refl _) _).setCell (Nat.le_refl _) _).setCell (Nat.le_refl _) _⟩
    rw [List.mem_singleton] at hq
    subst hq
    exact k2.1


set_option maxRecDepth 100000 in
set_option maxHeartbeats 1000000 in
theorem fails_any (s : SourceP) (v : Value) (x : Int) (w : World) (hs : SrcV s v w) (hT : ETabs w) (hR : RTabs w) (hz : SrcSz s) (he : srcPrintR s = ([], x)) :
    Calls Tryz.prog 22 #[v, .int .i64 x] w fun e w' => e = .returned (.bool true) ∧ Below w.heap.size w w' := by
  obtain ⟨r, z, l, h, zs, rfl, hk⟩ := hs
  have hb0 : Below w.heap.size w (w.alloc (.cells #[r, z, l, h] 27)) := (Below.refl _ _).alloc (Nat.le_refl _) _
  have HP := Lib.hid (pprint_any r z l h zs s _ (hk.now hb0) (hT.below hb0) (hR.below hb0) hz)
  rw [he] at HP
  have HB := Lib.hid hb0
  obtain ⟨p1, c1, rfl⟩ := hk.1.slice
  obtain ⟨p2, c2, rfl⟩ := hk.2.1.slice
  obtain ⟨p3, c3, rfl⟩ := hk.2.2.2.2.1.slice
  obtain ⟨p4, c4, rfl⟩ := hk.2.2.2.2.2.slice
  clear hk hT hR hz he hb0
  go_enter Tryz.func22, Tryz.ntmps22
  go_wp2_with fail
  refine HP.out.mono ?_
  rintro e w1 ⟨rfl, hb1⟩
  have HB1 := Lib.hid (HB.out.trans (hb1.mono HB.out.size))
  clear hb1
  go_wp2_with fail
  go_ret
  exact ⟨rfl, HB1.out⟩

section
variable {P : Program} {ops : Array Oper} {C : World → Prop} {fin : Act → World → Prop}
theorem relWalk_relg {o : Oper} {l : List Oper} {p : Value → World → Prop} {ss : List Spec} {d : List Nat} {ds : List (List Nat)} {k : Nat} {Γ : Facts} {U : List Value} {a : Act} (h1 : ∀ w, C w → factsOf Γ d w → relOp P ops o a w p)
    (h2 : ∀ (u : Value) (K : Act → Prop), (∀ a', relWalk P ops C fin l (ss.zip ds) (k + 1) ((k, p u) :: Γ) U a' → K a') → K (a.put o.dst u)) : relWalk P ops C fin (o :: l) ((Spec.rel p :: ss).zip (d :: ds)) k Γ U a :=
  ⟨fun w hC hF => h1 w hC hF, fun u => h2 u _ fun _ h => h⟩
end
def endE : EraP := ⟨0, 0, 0, [], [71, 77, 84], ⟨true, 1900, 1, (1, 0, 1), (0, 0)⟩⟩
def gmtE : EraP := ⟨0, 0, 0, [], [71, 77, 84], UntilP.none⟩
def manyR : List RuleP := List.replicate 2001 RuleP.none
def src2 : SourceP := ⟨[], [], [], []⟩
def src3 : SourceP := ⟨[], [], [⟨[65], [66]⟩], [[69, 105, 114, 101]]⟩
def src4 : SourceP := ⟨[], [⟨[65], []⟩], [], []⟩
def src5 : SourceP := ⟨[], [⟨[65], [endE]⟩], [], []⟩
def src6 : SourceP := ⟨[], [⟨[46], [gmtE]⟩], [], []⟩
def src7 : SourceP := ⟨manyR, [], [], []⟩
def textE : List UInt8 := [82, 117, 108, 101, 32, 69, 105, 114, 101, 32, 49, 57, 55, 49, 32, 111, 110, 108, 121, 32, 45, 32, 79, 99, 116, 32, 51, 49, 32, 50, 58, 48, 48, 117, 32, 45, 49, 58, 48, 48, 32, 45, 10, 82, 117, 108, 101, 32, 69, 105, 114, 101, 32, 49, 57, 55, 50, 32, 109, 97, 120, 32, 45, 32, 77, 97, 114, 32, 83, 117, 110, 62, 61, 49, 53, 32, 50, 58, 48, 48, 117, 32, 48, 58, 48, 48, 32, 45, 10, 82, 117, 108, 101, 32, 69, 105, 114, 101, 32, 49, 57, 55, 50, 32, 109, 97, 120, 32, 45, 32, 79, 99, 116, 32, 108, 97, 115, 116, 83, 117, 110, 32, 49, 58, 48, 48, 117, 32, 45, 49, 58, 48, 48, 32, 45, 10, 90, 111, 110, 101, 32, 69, 117, 114, 111, 112, 101, 47, 68, 117, 98, 108, 105, 110, 32, 48, 58, 48, 48, 32, 45, 32, 71, 77, 84, 32, 49, 57, 54, 56, 32, 79, 99, 116, 32, 50, 55, 10, 9, 49, 58, 48, 48, 32, 69, 105, 114, 101, 32, 73, 83, 84, 47, 71, 77, 84, 10]
theorem pr1 : srcPrintR eirePS = (textE, 0) := by kernel_rfl
theorem pr2 : srcPrintR src2 = ([], 0) := by kernel_rfl
theorem pr3 : srcPrintR src3 = ([76, 105, 110, 107, 32, 65, 32, 66, 10, 83, 104, 105, 102, 116, 32, 69, 105, 114, 101, 10], 0) := by kernel_rfl
theorem pr4 : srcPrintR src4 = ([], 2) := by kernel_rfl
theorem pr5 : srcPrintR src5 = ([], 2) := by kernel_rfl
theorem pr6 : srcPrintR src6 = ([], 2) := by kernel_rfl
theorem pr7 : srcPrintR src7 = ([], 7) := by
  unfold srcPrintR
  rw [if_pos (by unfold manyB; rw [show src7.rules.length = 2001 from List.length_replicate]; rfl)]
theorem sz_zones {z : ZoneP} (h : z.name.length ≤ 1048576) (he : ∀ e ∈ z.eras, EraSz e) : SrcSz ⟨[], [z], [], []⟩ :=
  ⟨fun _ h => absurd h List.not_mem_nil, fun x hx => by rw [List.mem_singleton] at hx; subst hx; exact ⟨h, he⟩, fun _ h => absurd h List.not_mem_nil, fun _ h => absurd h List.not_mem_nil⟩
theorem sz1 : SrcSz eirePS := ⟨by decide, by intro z hz; simp [eirePS] at hz; subst hz; exact ⟨by decide, by intro e he; simp [eEras] at he; rcases he with rfl | rfl <;> exact ⟨by decide, by decide⟩⟩, by simp [eirePS], by simp [eirePS]⟩
theorem sz2 : SrcSz src2 := ⟨by simp [src2], by simp [src2], by simp [src2], by simp [src2]⟩
theorem sz3 : SrcSz src3 := ⟨by simp [src3], by simp [src3], by simp [src3], by simp [src3]⟩
theorem sz4 : SrcSz src4 := sz_zones (by decide) (by simp)
theorem sz5 : SrcSz src5 := sz_zones (by decide) (by intro e he; rw [List.mem_singleton] at he; subst he; exact ⟨by decide, by decide⟩)
theorem sz6 : SrcSz src6 := sz_zones (by decide) (by intro e he; rw [List.mem_singleton] at he; subst he; exact ⟨by decide, by decide⟩)
theorem sz7 : SrcSz src7 := ⟨fun r hr => by rw [List.eq_of_mem_replicate (show r ∈ List.replicate 2001 RuleP.none from hr)]; exact ⟨by decide, by decide⟩, by simp [src7], by simp [src7], by simp [src7]⟩
theorem ln1 : SrcLn eirePS := ⟨by decide, by decide, by decide, by decide, by intro z hz; simp [eirePS] at hz; subst hz; decide⟩
theorem ln2 : SrcLn src2 := ⟨by decide, by decide, by decide, by decide, by simp [src2]⟩
theorem srcv_zones {B : Nat} {z : ZoneP} {p q : Option Addr} {n c m d : Nat} {W : World} (h1 : RowV B 2 encZ [(z, .slice p n c)] (.slice q m d) W) (h2 : RowV B 13 EraP.cells z.eras (.slice p n c) W) : SrcV ⟨[], [z], [], []⟩ (.agg #[.slice none 0 0, .slice q m d, .slice none 0 0, .slice none 0 0]) W :=
  ⟨_, _, _, _, [_], rfl, nil_rows .., h1.1, rfl, fun x hx => by rw [List.mem_singleton] at hx; subst hx; exact h2.1, nil_rows .., nil_rows ..⟩
set_option maxRecDepth 100000 in
theorem made_rules (W : World) (T : TypeId) (z : Array Value) (hz : z = RuleP.none.cells) : RowsAt (W.alloc (.cells (madeCells z (2001 * 11)) T)) (W.heap.size + 1) 11 RuleP.cells (.slice (some ⟨W.heap.size, 0, none⟩) 2001 2001) manyR := by
  subst hz
  refine ⟨_, 2001, by unfold manyR; rw [List.length_replicate], fun _ => ⟨W.heap.size, 0, rfl, by omega, fun i x hx j u hu => ?_⟩⟩
  have hx' : x = RuleP.none := List.eq_of_mem_replicate (show x ∈ List.replicate 2001 RuleP.none from List.mem_of_getElem? hx)
  have hi : i < 2001 := by
    rcases Nat.lt_or_ge i manyR.length with h | h
    · unfold manyR at h; rwa [List.length_replicate] at h
    · rw [List.getElem?_eq_none h] at hx; cases hx
  subst hx'
  have hj : j < 11 := by
    rcases Nat.lt_or_ge j 11 with h | h
    · exact h
    · rw [List.getElem?_eq_none (by exact h)] at hu; cases hu
  rw [Nat.zero_add]
  refine (Blk.new' W T _ rfl).cell_ ?_
  have hq : i * 11 + j < 2001 * 11 := by omega
  unfold madeCells
  rw [Array.getElem?_map, Array.getElem?_range, if_pos hq]
  have hm : (i * 11 + j) % RuleP.none.cells.size = j := by show (i * 11 + j) % 11 = j; omega
  simp only [Option.map_some, hm]
  rw [← hu, Array.getElem?_toList]
  rw [getElem!_pos RuleP.none.cells j hj, Array.getElem?_eq_getElem hj]
theorem make_many {o : Oper} {a : Act} (W : World) (B : Nat) (ho : o.op = .makeSlice 22 (.const (.int .i64 2001)) (.const (.int .i64 2001))) (hB : B ≤ W.heap.size) : relAt Tryz.prog o a W (RowV B 11 RuleP.cells manyR) := by
  obtain ⟨i0, z0, hi, hz, hsz, hby, hzc⟩ := info_st (P := Tryz.prog) (e := 47) (k := 11) (by kernel_rfl)
  have hzz : z0.cells = RuleP.none.cells := by
    have h : (Tryz.prog.info? 47).bind (fun i => i.zero.map (·.cells)) = some RuleP.none.cells := by kernel_rfl
    rw [hi] at h
    simp only [Option.bind_some, hz, Option.map_some, Option.some.injEq] at h
    exact h
  have hr := run_make (P := Tryz.prog) W 22 47 i0 z0 Tryz.underlying22 hi hz .i64 .i64 2001 2001 (by omega) (by omega) (by omega) (by omega)
  unfold relAt execOp
  rw [ho]
  simp only [Act.eval, Sem.run_bind, hr, Result.andThen_ok, Sem.run_pure]
  refine ⟨(Below.refl _ _).alloc (Nat.le_refl _) _, ?_, fun b o n c e => by injection e with e1 _ _; injection e1 with e1; injection e1 with e1 _ _; omega⟩
  rw [hsz]
  exact (made_rules W 47 z0.cells hzz).mono (by simp)
def WSt (w : World) (gA gE : Nat) (p1 : Option Addr) (n1 c1 : Nat) (p2 : Option Addr) (n2 c2 : Nat) (p3 : Option Addr) (n3 c3 : Nat) (p4 : Option Addr) (n4 c4 : Nat) (ez : List (ZoneP × Value)) (W : World) : Prop :=
  Blk W gA 27 #[.slice p1 n1 c1, .slice p2 n2 c2, .slice p3 n3 c3, .slice p4 n4 c4] ∧ SrcIs W W.heap.size (.slice p1 n1 c1) (.slice p2 n2 c2) (.slice p3 n3 c3) (.slice p4 n4 c4) ez eirePS ∧ Blk W gE 55 #[.int .i64 0, .int .i64 0, .int .i64 0, .string ⟨#[]⟩, .string ⟨#[71, 77, 84]⟩, .bool true, .int .i64 1900, .int .i64 1, .int .i64 1, .int .i64 0, .int .i64 1, .int .i64 0, .int .i64 0] ∧ Below w.heap.size w W
theorem WSt.below {w : World} {gA gE : Nat} {p1 : Option Addr} {n1 c1 : Nat} {p2 : Option Addr} {n2 c2 : Nat} {p3 : Option Addr} {n3 c3 : Nat} {p4 : Option Addr} {n4 c4 : Nat} {ez : List (ZoneP × Value)} {W W' : World} (h : WSt w gA gE p1 n1 c1 p2 n2 c2 p3 n3 c3 p4 n4 c4 ez W) (hb : Below W.heap.size W W') : WSt w gA gE p1 n1 c1 p2 n2 c2 p3 n3 c3 p4 n4 c4 ez W' :=
  ⟨h.1.below hb h.1.lt, h.2.1.now hb, h.2.2.1.below hb h.2.2.1.lt, h.2.2.2.trans (hb.mono h.2.2.2.size)⟩
theorem WSt.drew {w : World} {gA gE : Nat} {p1 : Option Addr} {n1 c1 : Nat} {p2 : Option Addr} {n2 c2 : Nat} {p3 : Option Addr} {n3 c3 : Nat} {p4 : Option Addr} {n4 c4 : Nat} {ez : List (ZoneP × Value)} {W : World} (h : WSt w gA gE p1 n1 c1 p2 n2 c2 p3 n3 c3 p4 n4 c4 ez W) : WSt w gA gE p1 n1 c1 p2 n2 c2 p3 n3 c3 p4 n4 c4 ez W.drew := h.below (Below.refl _ _).drew

theorem WSt.src {w : World} {gA gE : Nat} {p1 : Option Addr} {n1 c1 : Nat} {p2 : Option Addr} {n2 c2 : Nat} {p3 : Option Addr} {n3 c3 : Nat} {p4 : Option Addr} {n4 c4 : Nat} {ez : List (ZoneP × Value)} {W : World} (h : WSt w gA gE p1 n1 c1 p2 n2 c2 p3 n3 c3 p4 n4 c4 ez W) : SrcV eirePS (.agg #[.slice p1 n1 c1, .slice p2 n2 c2, .slice p3 n3 c3, .slice p4 n4 c4]) W := ⟨_, _, _, _, _, rfl, h.2.1⟩
theorem same_src {s s' : SourceP} {v v' : Value} {W : World} (h1 : SrcV s v W) (h2 : SrcV s' v' W) (n1 : SrcLn s) (n2 : SrcLn s') : Calls Tryz.prog 15 #[v, v'] W fun e w' => e = .returned (.bool (decide (s = s'))) ∧ Below W.heap.size W w' := by
  obtain ⟨r, z, l, h, zs, rfl, k⟩ := h1
  obtain ⟨r', z', l', h', zs', rfl, k'⟩ := h2
  exact same_any _ _ _ _ _ _ _ _ _ _ _ _ _ k k' n1 n2
theorem copy_src {s : SourceP} {v : Value} {W : World} (h : SrcV s v W) (n : SrcLn s) : Calls Tryz.prog 14 #[v] W fun e w' => (∃ v', e = .returned v' ∧ SrcV s v' w') ∧ Below W.heap.size W w' := by
  obtain ⟨r, z, l, h, zs, rfl, k⟩ := h
  refine (copy_any _ _ _ _ _ _ _ k n).mono ?_
  rintro e w' ⟨⟨r', z', l', h', zs', rfl, k'⟩, hb⟩
  exact ⟨⟨_, rfl, _, _, _, _, _, rfl, k'⟩, hb⟩
theorem print_src {s : SourceP} {v : Value} {W : World} (h : SrcV s v W) (hT : ETabs W) (hR : RTabs W) (n : SrcSz s) : Calls Tryz.prog 11 #[v] W fun e w' => e = .returned (.tuple #[.string ⟨(srcPrintR s).1.toArray⟩, .int .i64 (srcPrintR s).2]) ∧ Below W.heap.size W w' := by
  obtain ⟨r, z, l, h, zs, rfl, k⟩ := h
  exact pprint_any _ _ _ _ _ _ _ k hT hR n
set_option maxRecDepth 100000 in
set_option maxHeartbeats 2000000 in
theorem pworks_any (w : World) (hT : ETabs w) (hR : RTabs w) : Calls Tryz.prog 9 #[] w fun e w' => e = .returned (.bool true) ∧ Below w.heap.size w w' := by
  have HT := Lib.hid (fun W (hW : Below w.heap.size w W) => And.intro (hT.below hW) (hR.below hW))
  have HPr := Lib.hid (fun s v W (hW : Below w.heap.size w W) (h : SrcV s v W) (n : SrcSz s) => print_src h (HT.out W hW).1 (HT.out W hW).2 n)
  have HF := Lib.hid (fun s v x W (hW : Below w.heap.size w W) (h : SrcV s v W) (n : SrcSz s) (he : srcPrintR s = ([], x)) => fails_any s v x W h (HT.out W hW).1 (HT.out W hW).2 n he)
  have HE := Lib.hid (eire_any w)
  clear hT hR HT
  go_enter Tryz.func9, Tryz.ntmps9
  go_wp2_with fail
  refine HE.out.mono ?_
  rintro e w1 ⟨⟨v1, rfl, r, z, l, h, zs, rfl, hk⟩, hb1⟩
  obtain ⟨p1, c1, rfl⟩ := hk.1.slice
  obtain ⟨p2, c2, rfl⟩ := hk.2.1.slice
  obtain ⟨p3, c3, rfl⟩ := hk.2.2.2.2.1.slice
  obtain ⟨p4, c4, rfl⟩ := hk.2.2.2.2.2.slice
  have hbA : Below w1.heap.size w1 (w1.alloc (.cells #[.slice p1 eirePS.rules.length c1, .slice p2 zs.length c2, .slice p3 eirePS.links.length c3, .slice p4 eirePS.shifts.length c4] 27)) := (Below.refl _ _).alloc (Nat.le_refl _) _
  have HA := Lib.hid (show Blk (w1.alloc (.cells #[.slice p1 eirePS.rules.length c1, .slice p2 zs.length c2, .slice p3 eirePS.links.length c3, .slice p4 eirePS.shifts.length c4] 27)) w1.heap.size 27 #[.slice p1 eirePS.rules.length c1, .slice p2 zs.length c2, .slice p3 eirePS.links.length c3, .slice p4 eirePS.shifts.length c4] ∧ SrcIs (w1.alloc (.cells #[.slice p1 eirePS.rules.length c1, .slice p2 zs.length c2, .slice p3 eirePS.links.length c3, .slice p4 eirePS.shifts.length c4] 27)) (w1.alloc (.cells #[.slice p1 eirePS.rules.length c1, .slice p2 zs.length c2, .slice p3 eirePS.links.length c3, .slice p4 eirePS.shifts.length c4] 27)).heap.size (.slice p1 eirePS.rules.length c1) (.slice p2 zs.length c2) (.slice p3 eirePS.links.length c3) (.slice p4 eirePS.shifts.length c4) zs eirePS ∧ Below w.heap.size w (w1.alloc (.cells #[.slice p1 eirePS.rules.length c1, .slice p2 zs.length c2, .slice p3 eirePS.links.length c3, .slice p4 eirePS.shifts.length c4] 27)) from ⟨Blk.new' _ _ _ rfl, hk.now hbA, hb1.trans (hbA.mono hb1.size)⟩)
  clear hk hb1 hbA HE
  go_upto_region 2 with fail
  generalize w1.alloc (.cells #[.slice p1 eirePS.rules.length c1, .slice p2 zs.length c2, .slice p3 eirePS.links.length c3, .slice p4 eirePS.shifts.length c4] 27) = wA at *
  generalize w1.heap.size = gA at *
  have a0 := HA.out.1.cell_ (i := 0) rfl
  have a1 := HA.out.1.cell_ (i := 1) rfl
  have a2 := HA.out.1.cell_ (i := 2) rfl
  have a3 := HA.out.1.cell_ (i := 3) rfl
  go_wp2_with fail
  refine (HPr.out eirePS _ _ HA.out.2.2 ⟨_, _, _, _, _, rfl, HA.out.2.1⟩ sz1).mono ?_
  rintro e w2 ⟨rfl, hb2⟩
  rw [pr1]
  have HA2 := Lib.hid (And.intro (HA.out.1.below hb2 HA.out.1.lt) (And.intro (HA.out.2.1.now hb2) (HA.out.2.2.trans (hb2.mono HA.out.2.2.size))))
  clear hb2 a0 a1 a2 a3
  go_wp2_with fail
  refine (HPr.out src2 _ _ HA2.out.2.2 ⟨_, _, _, _, [], rfl, nil_rows .., nil_rows .., rfl, fun q hq => absurd hq List.not_mem_nil, nil_rows .., nil_rows ..⟩ sz2).mono ?_
  rintro e w3 ⟨rfl, hb3⟩
  rw [pr2]
  have HA3 := Lib.hid (And.intro (HA2.out.1.below hb3 HA2.out.1.lt) (And.intro (HA2.out.2.1.now hb3) (HA2.out.2.2.trans (hb3.mono HA2.out.2.2.size))))
  clear hb3 HA HA2
  have hbB : Below w3.heap.size w3 ((w3.alloc (.cells #[.string ⟨#[65]⟩, .string ⟨#[66]⟩] 58)).alloc (.cells #[.string ⟨#[69, 105, 114, 101]⟩] 9)) := ((Below.refl _ _).alloc (Nat.le_refl _) _).alloc (by simp) _
  have hr2 : RowsAt ((w3.alloc (.cells #[.string ⟨#[65]⟩, .string ⟨#[66]⟩] 58)).alloc (.cells #[.string ⟨#[69, 105, 114, 101]⟩] 9)) ((w3.alloc (.cells #[.string ⟨#[65]⟩, .string ⟨#[66]⟩] 58)).alloc (.cells #[.string ⟨#[69, 105, 114, 101]⟩] 9)).heap.size 1 encS (.slice (some ⟨w3.heap.size + 1, 0, none⟩) 1 1) src3.shifts := by
    have k := rows_lit (enc := encS) (by decide) (fun x => rfl) (w3.alloc (.cells #[.string ⟨#[65]⟩, .string ⟨#[66]⟩] 58)) 9 src3.shifts 1 #[.string ⟨#[69, 105, 114, 101]⟩] rfl
    rw [World.size_alloc] at k
    exact k.mono (by simp)
  have HB := Lib.hid (show SrcV src3 (.agg #[.slice none 0 0, .slice none 0 0, .slice (some ⟨w3.heap.size, 0, none⟩) 1 1, .slice (some ⟨w3.heap.size + 1, 0, none⟩) 1 1]) ((w3.alloc (.cells #[.string ⟨#[65]⟩, .string ⟨#[66]⟩] 58)).alloc (.cells #[.string ⟨#[69, 105, 114, 101]⟩] 9)) from
    ⟨_, _, _, _, [], rfl, nil_rows .., nil_rows .., rfl, fun q hq => absurd hq List.not_mem_nil, ((rows_lit (by decide) (fun x => (link_cells x).1) w3 58 src3.links 1 _ rfl).below (by exact (Below.refl _ _).alloc (by simp) _)).mono (by simp), hr2⟩)
  have HA4 := Lib.hid (And.intro (HA3.out.1.below hbB HA3.out.1.lt) (And.intro (HA3.out.2.1.now hbB) (HA3.out.2.2.trans (hbB.mono HA3.out.2.2.size))))
  clear hbB HA3 hr2
  go_wp2_with fail
  refine (HPr.out src3 _ _ HA4.out.2.2 HB.out sz3).mono ?_
  rintro e w5 ⟨rfl, hb5⟩
  rw [pr3]
  have HA5 := Lib.hid (And.intro (HA4.out.1.below hb5 HA4.out.1.lt) (And.intro (HA4.out.2.1.now hb5) (HA4.out.2.2.trans (hb5.mono HA4.out.2.2.size))))
  clear hb5 HA4 HB HPr
  have hbC : Below w5.heap.size w5 (w5.alloc (.cells #[.int .i64 0, .int .i64 0, .int .i64 0, .string ⟨#[]⟩, .string ⟨#[71, 77, 84]⟩, .bool true, .int .i64 1900, .int .i64 1, .int .i64 1, .int .i64 0, .int .i64 1, .int .i64 0, .int .i64 0] 55)) := (Below.refl _ _).alloc (Nat.le_refl _) _
  have HS6 := Lib.hid (show WSt w gA w5.heap.size p1 eirePS.rules.length c1 p2 zs.length c2 p3 eirePS.links.length c3 p4 eirePS.shifts.length c4 zs (w5.alloc (.cells #[.int .i64 0, .int .i64 0, .int .i64 0, .string ⟨#[]⟩, .string ⟨#[71, 77, 84]⟩, .bool true, .int .i64 1900, .int .i64 1, .int .i64 1, .int .i64 0, .int .i64 1, .int .i64 0, .int .i64 0] 55)) from ⟨HA5.out.1.below hbC HA5.out.1.lt, HA5.out.2.1.now hbC, Blk.new' _ _ _ rfl, HA5.out.2.2.trans (hbC.mono HA5.out.2.2.size)⟩)
  clear hbC HA5
  go_upto_region 6 with fail
  generalize w5.alloc (.cells #[.int .i64 0, .int .i64 0, .int .i64 0, .string ⟨#[]⟩, .string ⟨#[71, 77, 84]⟩, .bool true, .int .i64 1900, .int .i64 1, .int .i64 1, .int .i64 0, .int .i64 1, .int .i64 0, .int .i64 0] 55) = w6 at *
  generalize w5.heap.size = gE at *
  have HCo := Lib.hid (fun W (h : WSt w gA gE p1 eirePS.rules.length c1 p2 zs.length c2 p3 eirePS.links.length c3 p4 eirePS.shifts.length c4 zs W) => copy_src h.src ln1)
  have HSa := Lib.hid (show ∀ v W, WSt w gA gE p1 eirePS.rules.length c1 p2 zs.length c2 p3 eirePS.links.length c3 p4 eirePS.shifts.length c4 zs W → SrcV eirePS v W → Calls Tryz.prog 15 #[.agg #[.slice p1 eirePS.rules.length c1, .slice p2 zs.length c2, .slice p3 eirePS.links.length c3, .slice p4 eirePS.shifts.length c4], v] W fun e w' => e = .returned (.bool true) ∧ Below W.heap.size W w' from fun v W h k => by
    have := same_src h.src k ln1 ln1
    rwa [decide_eq_true rfl] at this)
  have HSn := Lib.hid (show ∀ W, WSt w gA gE p1 eirePS.rules.length c1 p2 zs.length c2 p3 eirePS.links.length c3 p4 eirePS.shifts.length c4 zs W → Calls Tryz.prog 15 #[.agg #[.slice p1 eirePS.rules.length c1, .slice p2 zs.length c2, .slice p3 eirePS.links.length c3, .slice p4 eirePS.shifts.length c4], .agg #[.slice none 0 0, .slice none 0 0, .slice none 0 0, .slice none 0 0]] W fun e w' => e = .returned (.bool false) ∧ Below W.heap.size W w' from fun W h => by
    have := same_src h.src (s' := src2) (v' := .agg #[.slice none 0 0, .slice none 0 0, .slice none 0 0, .slice none 0 0]) ⟨_, _, _, _, [], rfl, nil_rows .., nil_rows .., rfl, fun q hq => absurd hq List.not_mem_nil, nil_rows .., nil_rows ..⟩ ln1 ln2
    rwa [show decide (eirePS = src2) = false by decide +kernel] at this)
  refine wp_region_rels 61 [[], [], [], [], [], [], [], [], [], [], [], [], [], [], [], [], [], [], [], [], [], [], [], [], [], [24], [25], [], [], [], [], [30], [31], [32], [33], [], [], [], [], [38], [39], [40], [41], [], [], [], [45], [46], [], [], [], [], [], [52], [], [], [], [], [], [], []] [Form.val, Form.val, Form.val, Form.val, Form.val, Form.val, Form.val, Form.val, Form.val, Form.val, Form.val, Form.val, Form.val, Form.val, Form.val, Form.val, Form.val, Form.val, Form.val, Form.val, Form.val, Form.val, Form.val, Form.val, Form.rel (ZonesV w.heap.size (⟨[65], []⟩ : ZoneP)), Form.rel (SrcV src4), Form.val, Form.val, Form.val, Form.val, Form.rel (RowV w.heap.size 13 EraP.cells [endE]), Form.rel (ZoneV w.heap.size (⟨[65], [endE]⟩ : ZoneP)), Form.rel (ZonesV w.heap.size (⟨[65], [endE]⟩ : ZoneP)), Form.rel (SrcV src5), Form.val, Form.val, Form.val, Form.val, Form.rel (RowV w.heap.size 13 EraP.cells [gmtE]), Form.rel (ZoneV w.heap.size (⟨[46], [gmtE]⟩ : ZoneP)), Form.rel (ZonesV w.heap.size (⟨[46], [gmtE]⟩ : ZoneP)), Form.rel (SrcV src6), Form.val, Form.val, Form.val, Form.rel (RowV w.heap.size 11 RuleP.cells manyR), Form.rel (SrcV src7), Form.val, Form.val, Form.val, Form.val, Form.val, Form.rel (SrcV eirePS), Form.val, Form.val, Form.val, Form.val, Form.val, Form.val, Form.val, Form.val] (WSt w gA gE p1 eirePS.rules.length c1 p2 zs.length c2 p3 eirePS.links.length c3 p4 eirePS.shifts.length c4 zs) (by kernel_rfl) (by kernel_rfl) rfl rfl (HS6.out.drew) (fun W W2 k hb => k.below hb) ⟨ZonesV.last _ _, SrcV.last _, RowV.last _ _ _ _, ZoneV.last _ _, ZonesV.last _ _, SrcV.last _, RowV.last _ _ _ _, ZoneV.last _ _, ZonesV.last _ _, SrcV.last _, RowV.last _ _ _ _, SrcV.last _, SrcV.last _, trivial⟩ ?_
  repeat (first | apply exSpec_rel | apply exSpec_new | apply exSpec_val)
  apply relWalk_ex rfl ?o0 (fun K hK => ?n0)
  case o0 =>
    intro W hC hF
    go_simp
    all_goals exact ⟨Below.refl _ _, rfl⟩
  case' n0 =>
    go_simp
    refine hK _ ?_
    clear hK K
  apply relWalk_ex rfl ?o1 (fun K hK => ?n1)
  case o1 =>
    intro W hC hF
    go_simp
    all_goals exact ⟨Below.refl _ _, rfl⟩
  case' n1 =>
    go_simp
    refine hK _ ?_
    clear hK K
  apply relWalk_ex rfl ?o2 (fun K hK => ?n2)
  case o2 =>
    intro W hC hF
    go_simp
    all_goals exact ⟨Below.refl _ _, rfl⟩
  case' n2 =>
    go_simp
    refine hK _ ?_
    clear hK K
  apply relWalk_exg ?o3 (fun K hK => ?n3)
  case o3 =>
    intro W hC hF
    first | exact relOp_off rfl rfl rfl rfl | exact relOp_none rfl rfl rfl | skip
    all_goals
      refine relOp_on rfl rfl ?_
      go_simp
      all_goals exact ⟨Below.refl _ _, rfl⟩
  case' n3 =>
    go_simp
    refine hK _ ?_
    clear hK K
  apply relWalk_exg ?o4 (fun K hK => ?n4)
  case o4 =>
    intro W hC hF
    first | exact relOp_off rfl rfl rfl rfl | exact relOp_none rfl rfl rfl | skip
    all_goals
      refine relOp_on rfl rfl ?_
      go_simp
      all_goals exact ⟨Below.refl _ _, rfl⟩
  case' n4 =>
    go_simp
    refine hK _ ?_
    clear hK K
  apply relWalk_ex rfl ?o5 (fun K hK => ?n5)
  case o5 =>
    intro W hC hF
    go_simp
    all_goals exact ⟨Below.refl _ _, rfl⟩
  case' n5 =>
    go_simp
    refine hK _ ?_
    clear hK K
  apply relWalk_ex rfl ?o6 (fun K hK => ?n6)
  case o6 =>
    intro W hC hF
    go_simp
    all_goals exact ⟨Below.refl _ _, rfl⟩
  case' n6 =>
    go_simp
    refine hK _ ?_
    clear hK K
  apply relWalk_exg ?o7 (fun K hK => ?n7)
  case o7 =>
    intro W hC hF
    first | exact relOp_off rfl rfl rfl rfl | exact relOp_none rfl rfl rfl | skip
    all_goals
      refine relOp_on rfl rfl ?_
      go_simp
      all_goals exact ⟨Below.refl _ _, rfl⟩
  case' n7 =>
    go_simp
    refine hK _ ?_
    clear hK K
  apply relWalk_exg ?o8 (fun K hK => ?n8)
  case o8 =>
    intro W hC hF
    first | exact relOp_off rfl rfl rfl rfl | exact relOp_none rfl rfl rfl | skip
    all_goals
      refine relOp_on rfl rfl ?_
      go_simp
      all_goals exact ⟨Below.refl _ _, rfl⟩
  case' n8 =>
    go_simp
    refine hK _ ?_
    clear hK K
  apply relWalk_ex rfl ?o9 (fun K hK => ?n9)
  case o9 =>
    intro W hC hF
    go_simp
    all_goals exact ⟨Below.refl _ _, rfl⟩
  case' n9 =>
    go_simp
    refine hK _ ?_
    clear hK K
  apply relWalk_ex rfl ?o10 (fun K hK => ?n10)
  case o10 =>
    intro W hC hF
    go_simp
    all_goals exact ⟨Below.refl _ _, rfl⟩
  case' n10 =>
    go_simp
    refine hK _ ?_
    clear hK K
  apply relWalk_exg ?o11 (fun K hK => ?n11)
  case o11 =>
    intro W hC hF
    first | exact relOp_off rfl rfl rfl rfl | exact relOp_none rfl rfl rfl | skip
    all_goals
      refine relOp_on rfl rfl ?_
      go_simp
      all_goals exact ⟨Below.refl _ _, rfl⟩
  case' n11 =>
    go_simp
    refine hK _ ?_
    clear hK K
  apply relWalk_exg ?o12 (fun K hK => ?n12)
  case o12 =>
    intro W hC hF
    first | exact relOp_off rfl rfl rfl rfl | exact relOp_none rfl rfl rfl | skip
    all_goals
      refine relOp_on rfl rfl ?_
      go_simp
      all_goals exact ⟨Below.refl _ _, rfl⟩
  case' n12 =>
    go_simp
    refine hK _ ?_
    clear hK K
  apply relWalk_ex rfl ?o13 (fun K hK => ?n13)
  case o13 =>
    intro W hC hF
    go_simp
    all_goals exact ⟨Below.refl _ _, rfl⟩
  case' n13 =>
    go_simp
    refine hK _ ?_
    clear hK K
  apply relWalk_ex rfl ?o14 (fun K hK => ?n14)
  case o14 =>
    intro W hC hF
    go_simp
    all_goals exact ⟨Below.refl _ _, rfl⟩
  case' n14 =>
    go_simp
    refine hK _ ?_
    clear hK K
  apply relWalk_exg ?o15 (fun K hK => ?n15)
  case o15 =>
    intro W hC hF
    first | exact relOp_off rfl rfl rfl rfl | exact relOp_none rfl rfl rfl | skip
    all_goals
      refine relOp_on rfl rfl ?_
      go_simp
      all_goals exact ⟨Below.refl _ _, rfl⟩
  case' n15 =>
    go_simp
    refine hK _ ?_
    clear hK K
  apply relWalk_exg ?o16 (fun K hK => ?n16)
  case o16 =>
    intro W hC hF
    first | exact relOp_off rfl rfl rfl rfl | exact relOp_none rfl rfl rfl | skip
    all_goals
      refine relOp_on rfl rfl ?_
      go_simp
      all_goals exact ⟨Below.refl _ _, rfl⟩
  case' n16 =>
    go_simp
    refine hK _ ?_
    clear hK K
  apply relWalk_ex rfl ?o17 (fun K hK => ?n17)
  case o17 =>
    intro W hC hF
    go_simp
    all_goals exact ⟨Below.refl _ _, rfl⟩
  case' n17 =>
    go_simp
    refine hK _ ?_
    clear hK K
  apply relWalk_ex rfl ?o18 (fun K hK => ?n18)
  case o18 =>
    intro W hC hF
    go_simp
    all_goals exact ⟨Below.refl _ _, rfl⟩
  case' n18 =>
    go_simp
    refine hK _ ?_
    clear hK K
  apply relWalk_exg ?o19 (fun K hK => ?n19)
  case o19 =>
    intro W hC hF
    first | exact relOp_off rfl rfl rfl rfl | exact relOp_none rfl rfl rfl | skip
    all_goals
      refine relOp_on rfl rfl ?_
      go_simp
      all_goals exact ⟨Below.refl _ _, rfl⟩
  case' n19 =>
    go_simp
    refine hK _ ?_
    clear hK K
  apply relWalk_exg ?o20 (fun K hK => ?n20)
  case o20 =>
    intro W hC hF
    first | exact relOp_off rfl rfl rfl rfl | exact relOp_none rfl rfl rfl | skip
    all_goals
      refine relOp_on rfl rfl ?_
      go_simp
      all_goals exact ⟨Below.refl _ _, rfl⟩
  case' n20 =>
    go_simp
    refine hK _ ?_
    clear hK K
  apply relWalk_ex rfl ?o21 (fun K hK => ?n21)
  case o21 =>
    intro W hC hF
    go_simp
    all_goals exact ⟨Below.refl _ _, rfl⟩
  case' n21 =>
    go_simp
    refine hK _ ?_
    clear hK K
  apply relWalk_ex rfl ?o22 (fun K hK => ?n22)
  case o22 =>
    intro W hC hF
    go_simp
    all_goals exact ⟨Below.refl _ _, rfl⟩
  case' n22 =>
    go_simp
    refine hK _ ?_
    clear hK K
  apply relWalk_exg ?o23 (fun K hK => ?n23)
  case o23 =>
    intro W hC hF
    first | exact relOp_off rfl rfl rfl rfl | exact relOp_none rfl rfl rfl | skip
    all_goals
      refine relOp_on rfl rfl ?_
      go_simp
      all_goals exact ⟨Below.refl _ _, rfl⟩
  case' n23 =>
    go_simp
    refine hK _ ?_
    clear hK K
  apply relWalk_relg ?o24 (fun u24 K hK => ?n24)
  case o24 =>
    intro W hC hF
    all_goals
      refine relOp_on rfl rfl ?_
      go_simp
      all_goals exact ⟨(Below.refl _ _).alloc (Nat.le_refl _) _, zones_one _ (⟨[65], []⟩ : ZoneP) none 0 0 W _ ⟨nil_rows .., fun b o n c e => by cases e⟩ hC.2.2.2.size⟩
  case' n24 =>
    go_simp
    refine hK _ ?_
    clear hK K
  apply relWalk_relg ?o25 (fun u25 K hK => ?n25)
  case o25 =>
    intro W hC hF
    all_goals
      refine relOp_on rfl rfl ?_
      obtain ⟨⟨pz, nz, cz, hz1, hz2⟩, -⟩ := hF
      obtain ⟨qz, dz, ez⟩ := hz1.1.slice
      subst ez
      go_simp
      all_goals exact ⟨Below.refl _ _, srcv_zones hz1 hz2⟩
  case' n25 =>
    go_simp
    refine hK _ ?_
    clear hK K
  apply relWalk_exg ?o26 (fun K hK => ?n26)
  case o26 =>
    intro W hC hF
    first | exact relOp_off rfl rfl rfl rfl | exact relOp_none rfl rfl rfl | skip
    all_goals
      refine relOp_on rfl rfl ?_
      go_simp
      all_goals exact (HF.out _ _ _ W hC.2.2.2 hF.1 (by first | exact sz4 | exact sz5 | exact sz6 | exact sz7) (by first | exact pr4 | exact pr5 | exact pr6 | exact pr7)).mono fun e w2 ⟨he, hb⟩ => ⟨he, hb⟩
  case' n26 =>
    go_simp
    refine hK _ ?_
    clear hK K
  apply relWalk_ex rfl ?o27 (fun K hK => ?n27)
  case o27 =>
    intro W hC hF
    go_simp
    all_goals exact ⟨Below.refl _ _, rfl⟩
  case' n27 =>
    go_simp
    refine hK _ ?_
    clear hK K
  apply relWalk_ex rfl ?o28 (fun K hK => ?n28)
  case o28 =>
    intro W hC hF
    go_simp
    all_goals exact ⟨Below.refl _ _, rfl⟩
  case' n28 =>
    go_simp
    refine hK _ ?_
    clear hK K
  apply relWalk_exg ?o29 (fun K hK => ?n29)
  case o29 =>
    intro W hC hF
    first | exact relOp_off rfl rfl rfl rfl | exact relOp_none rfl rfl rfl | skip
    all_goals
      refine relOp_on rfl rfl ?_
      exact relAt_load 55 (.tmp 8) rfl gE rfl 55 #[.int .i64 0, .int .i64 0, .int .i64 0, .string ⟨#[]⟩, .string ⟨#[71, 77, 84]⟩, .bool true, .int .i64 1900, .int .i64 1, .int .i64 1, .int .i64 0, .int .i64 1, .int .i64 0, .int .i64 0] _ hC.2.2.1 Tryz.underlying55 rfl (by kernel_rfl)
  case' n29 =>
    go_simp
    refine hK _ ?_
    clear hK K
  apply relWalk_relg ?o30 (fun u30 K hK => ?n30)
  case o30 =>
    intro W hC hF
    all_goals
      refine relOp_on rfl rfl ?_
      go_simp
      all_goals exact ⟨(Below.refl _ _).alloc (Nat.le_refl _) _, rowv_lit (by decide) (fun x => (eraOk_cells x).1) _ W _ [endE] 1 _ rfl hC.2.2.2.size⟩
  case' n30 =>
    go_simp
    refine hK _ ?_
    clear hK K
  apply relWalk_relg ?o31 (fun u31 K hK => ?n31)
  case o31 =>
    intro W hC hF
    all_goals
      refine relOp_on rfl rfl ?_
      obtain ⟨he0, -⟩ := hF
      obtain ⟨pe, ce, ee⟩ := he0.1.slice
      subst ee
      have he : RowV w.heap.size 13 EraP.cells [endE] (.slice pe 1 ce) W := he0
      go_simp
      all_goals exact ⟨Below.refl _ _, pe, 1, ce, rfl, he⟩
  case' n31 =>
    go_simp
    refine hK _ ?_
    clear hK K
  apply relWalk_relg ?o32 (fun u32 K hK => ?n32)
  case o32 =>
    intro W hC hF
    all_goals
      refine relOp_on rfl rfl ?_
      obtain ⟨⟨pe, ne, ce, ee, he⟩, -⟩ := hF
      subst ee
      unfold encZ
      go_simp
      all_goals exact ⟨(Below.refl _ _).alloc (Nat.le_refl _) _, zones_one _ _ _ _ _ W _ he hC.2.2.2.size⟩
  case' n32 =>
    go_simp
    refine hK _ ?_
    clear hK K
  apply relWalk_relg ?o33 (fun u33 K hK => ?n33)
  case o33 =>
    intro W hC hF
    all_goals
      refine relOp_on rfl rfl ?_
      obtain ⟨⟨pz, nz, cz, hz1, hz2⟩, -⟩ := hF
      obtain ⟨qz, dz, ez⟩ := hz1.1.slice
      subst ez
      go_simp
      all_goals exact ⟨Below.refl _ _, srcv_zones hz1 hz2⟩
  case' n33 =>
    go_simp
    refine hK _ ?_
    clear hK K
  apply relWalk_exg ?o34 (fun K hK => ?n34)
  case o34 =>
    intro W hC hF
    first | exact relOp_off rfl rfl rfl rfl | exact relOp_none rfl rfl rfl | skip
    all_goals
      refine relOp_on rfl rfl ?_
      go_simp
      all_goals exact (HF.out _ _ _ W hC.2.2.2 hF.1 (by first | exact sz4 | exact sz5 | exact sz6 | exact sz7) (by first | exact pr4 | exact pr5 | exact pr6 | exact pr7)).mono fun e w2 ⟨he, hb⟩ => ⟨he, hb⟩
  case' n34 =>
    go_simp
    refine hK _ ?_
    clear hK K
  apply relWalk_ex rfl ?o35 (fun K hK => ?n35)
  case o35 =>
    intro W hC hF
    go_simp
    all_goals exact ⟨Below.refl _ _, rfl⟩
  case' n35 =>
    go_simp
    refine hK _ ?_
    clear hK K
  apply relWalk_ex rfl ?o36 (fun K hK => ?n36)
  case o36 =>
    intro W hC hF
    go_simp
    all_goals exact ⟨Below.refl _ _, rfl⟩
  case' n36 =>
    go_simp
    refine hK _ ?_
    clear hK K
  apply relWalk_exg ?o37 (fun K hK => ?n37)
  case o37 =>
    intro W hC hF
    first | exact relOp_off rfl rfl rfl rfl | exact relOp_none rfl rfl rfl | skip
    all_goals
      refine relOp_on rfl rfl ?_
      go_simp
      all_goals exact ⟨Below.refl _ _, rfl⟩
  case' n37 =>
    go_simp
    refine hK _ ?_
    clear hK K
  apply relWalk_relg ?o38 (fun u38 K hK => ?n38)
  case o38 =>
    intro W hC hF
    all_goals
      refine relOp_on rfl rfl ?_
      go_simp
      all_goals exact ⟨(Below.refl _ _).alloc (Nat.le_refl _) _, rowv_lit (by decide) (fun x => (eraOk_cells x).1) _ W _ [gmtE] 1 _ rfl hC.2.2.2.size⟩
  case' n38 =>
    go_simp
    refine hK _ ?_
    clear hK K
  apply relWalk_relg ?o39 (fun u39 K hK => ?n39)
  case o39 =>
    intro W hC hF
    all_goals
      refine relOp_on rfl rfl ?_
      obtain ⟨he0, -⟩ := hF
      obtain ⟨pe, ce, ee⟩ := he0.1.slice
      subst ee
      have he : RowV w.heap.size 13 EraP.cells [gmtE] (.slice pe 1 ce) W := he0
      go_simp
      all_goals exact ⟨Below.refl _ _, pe, 1, ce, rfl, he⟩
  case' n39 =>
    go_simp
    refine hK _ ?_
    clear hK K
  apply relWalk_relg ?o40 (fun u40 K hK => ?n40)
  case o40 =>
    intro W hC hF
    all_goals
      refine relOp_on rfl rfl ?_
      obtain ⟨⟨pe, ne, ce, ee, he⟩, -⟩ := hF
      subst ee
      unfold encZ
      go_simp
      all_goals exact ⟨(Below.refl _ _).alloc (Nat.le_refl _) _, zones_one _ _ _ _ _ W _ he hC.2.2.2.size⟩
  case' n40 =>
    go_simp
    refine hK _ ?_
    clear hK K
  apply relWalk_relg ?o41 (fun u41 K hK => ?n41)
  case o41 =>
    intro W hC hF
    all_goals
      refine relOp_on rfl rfl ?_
      obtain ⟨⟨pz, nz, cz, hz1, hz2⟩, -⟩ := hF
      obtain ⟨qz, dz, ez⟩ := hz1.1.slice
      subst ez
      go_simp
      all_goals exact ⟨Below.refl _ _, srcv_zones hz1 hz2⟩
  case' n41 =>
    go_simp
    refine hK _ ?_
    clear hK K
  apply relWalk_exg ?o42 (fun K hK => ?n42)
  case o42 =>
    intro W hC hF
    first | exact relOp_off rfl rfl rfl rfl | exact relOp_none rfl rfl rfl | skip
    all_goals
      refine relOp_on rfl rfl ?_
      go_simp
      all_goals exact (HF.out _ _ _ W hC.2.2.2 hF.1 (by first | exact sz4 | exact sz5 | exact sz6 | exact sz7) (by first | exact pr4 | exact pr5 | exact pr6 | exact pr7)).mono fun e w2 ⟨he, hb⟩ => ⟨he, hb⟩
  case' n42 =>
    go_simp
    refine hK _ ?_
    clear hK K
  apply relWalk_ex rfl ?o43 (fun K hK => ?n43)
  case o43 =>
    intro W hC hF
    go_simp
    all_goals exact ⟨Below.refl _ _, rfl⟩
  case' n43 =>
    go_simp
    refine hK _ ?_
    clear hK K
  apply relWalk_ex rfl ?o44 (fun K hK => ?n44)
  case o44 =>
    intro W hC hF
    go_simp
    all_goals exact ⟨Below.refl _ _, rfl⟩
  case' n44 =>
    go_simp
    refine hK _ ?_
    clear hK K
  apply relWalk_relg ?o45 (fun u45 K hK => ?n45)
  case o45 =>
    intro W hC hF
    all_goals
      refine relOp_on rfl rfl ?_
      exact make_many W w.heap.size rfl hC.2.2.2.size
  case' n45 =>
    go_simp
    refine hK _ ?_
    clear hK K
  apply relWalk_relg ?o46 (fun u46 K hK => ?n46)
  case o46 =>
    intro W hC hF
    all_goals
      refine relOp_on rfl rfl ?_
      obtain ⟨hr, -⟩ := hF
      obtain ⟨pr, cr, er⟩ := hr.1.slice
      subst er
      go_simp
      all_goals exact ⟨Below.refl _ _, _, _, _, _, [], rfl, hr.1, nil_rows .., rfl, fun q hq => absurd hq List.not_mem_nil, nil_rows .., nil_rows ..⟩
  case' n46 =>
    go_simp
    refine hK _ ?_
    clear hK K
  apply relWalk_exg ?o47 (fun K hK => ?n47)
  case o47 =>
    intro W hC hF
    first | exact relOp_off rfl rfl rfl rfl | exact relOp_none rfl rfl rfl | skip
    all_goals
      refine relOp_on rfl rfl ?_
      go_simp
      all_goals exact (HF.out _ _ _ W hC.2.2.2 hF.1 (by first | exact sz4 | exact sz5 | exact sz6 | exact sz7) (by first | exact pr4 | exact pr5 | exact pr6 | exact pr7)).mono fun e w2 ⟨he, hb⟩ => ⟨he, hb⟩
  case' n47 =>
    go_simp
    refine hK _ ?_
    clear hK K
  apply relWalk_ex rfl ?o48 (fun K hK => ?n48)
  case o48 =>
    intro W hC hF
    go_simp
    all_goals exact ⟨Below.refl _ _, rfl⟩
  case' n48 =>
    go_simp
    refine hK _ ?_
    clear hK K
  apply relWalk_ex rfl ?o49 (fun K hK => ?n49)
  case o49 =>
    intro W hC hF
    go_simp
    all_goals exact ⟨Below.refl _ _, rfl⟩
  case' n49 =>
    go_simp
    refine hK _ ?_
    clear hK K
  apply relWalk_exg ?o50 (fun K hK => ?n50)
  case o50 =>
    intro W hC hF
    first | exact relOp_off rfl rfl rfl rfl | exact relOp_none rfl rfl rfl | skip
    all_goals
      refine relOp_on rfl rfl ?_
      exact relAt_load 27 (.tmp 1) rfl gA rfl 27 #[.slice p1 eirePS.rules.length c1, .slice p2 zs.length c2, .slice p3 eirePS.links.length c3, .slice p4 eirePS.shifts.length c4] _ hC.1 Tryz.underlying27 rfl (by kernel_rfl)
  case' n50 =>
    go_simp
    refine hK _ ?_
    clear hK K
  apply relWalk_exg ?o51 (fun K hK => ?n51)
  case o51 =>
    intro W hC hF
    first | exact relOp_off rfl rfl rfl rfl | exact relOp_none rfl rfl rfl | skip
    all_goals
      refine relOp_on rfl rfl ?_
      exact relAt_load 27 (.tmp 1) rfl gA rfl 27 #[.slice p1 eirePS.rules.length c1, .slice p2 zs.length c2, .slice p3 eirePS.links.length c3, .slice p4 eirePS.shifts.length c4] _ hC.1 Tryz.underlying27 rfl (by kernel_rfl)
  case' n51 =>
    go_simp
    refine hK _ ?_
    clear hK K
  apply relWalk_relg ?o52 (fun u52 K hK => ?n52)
  case o52 =>
    intro W hC hF
    all_goals
      refine relOp_on rfl rfl ?_
      go_simp
      all_goals exact (HCo.out W hC).mono fun e w2 ⟨⟨v2, he, ho⟩, hb⟩ => ⟨v2, he, hb, ho⟩
  case' n52 =>
    go_simp
    refine hK _ ?_
    clear hK K
  apply relWalk_exg ?o53 (fun K hK => ?n53)
  case o53 =>
    intro W hC hF
    first | exact relOp_off rfl rfl rfl rfl | exact relOp_none rfl rfl rfl | skip
    all_goals
      refine relOp_on rfl rfl ?_
      go_simp
      all_goals exact (HSa.out _ W hC hF.1).mono fun e w2 ⟨he, hb⟩ => ⟨he, hb⟩
  case' n53 =>
    go_simp
    refine hK _ ?_
    clear hK K
  apply relWalk_ex rfl ?o54 (fun K hK => ?n54)
  case o54 =>
    intro W hC hF
    go_simp
    all_goals exact ⟨Below.refl _ _, rfl⟩
  case' n54 =>
    go_simp
    refine hK _ ?_
    clear hK K
  apply relWalk_ex rfl ?o55 (fun K hK => ?n55)
  case o55 =>
    intro W hC hF
    go_simp
    all_goals exact ⟨Below.refl _ _, rfl⟩
  case' n55 =>
    go_simp
    refine hK _ ?_
    clear hK K
  apply relWalk_exg ?o56 (fun K hK => ?n56)
  case o56 =>
    intro W hC hF
    first | exact relOp_off rfl rfl rfl rfl | exact relOp_none rfl rfl rfl | skip
    all_goals
      refine relOp_on rfl rfl ?_
      exact relAt_load 27 (.tmp 1) rfl gA rfl 27 #[.slice p1 eirePS.rules.length c1, .slice p2 zs.length c2, .slice p3 eirePS.links.length c3, .slice p4 eirePS.shifts.length c4] _ hC.1 Tryz.underlying27 rfl (by kernel_rfl)
  case' n56 =>
    go_simp
    refine hK _ ?_
    clear hK K
  apply relWalk_exg ?o57 (fun K hK => ?n57)
  case o57 =>
    intro W hC hF
    first | exact relOp_off rfl rfl rfl rfl | exact relOp_none rfl rfl rfl | skip
    all_goals
      refine relOp_on rfl rfl ?_
      go_simp
      all_goals exact ⟨Below.refl _ _, rfl⟩
  case' n57 =>
    go_simp
    refine hK _ ?_
    clear hK K
  apply relWalk_exg ?o58 (fun K hK => ?n58)
  case o58 =>
    intro W hC hF
    first | exact relOp_off rfl rfl rfl rfl | exact relOp_none rfl rfl rfl | skip
    all_goals
      refine relOp_on rfl rfl ?_
      go_simp
      all_goals exact (HSn.out W hC).mono fun e w2 ⟨he, hb⟩ => ⟨he, hb⟩
  case' n58 =>
    go_simp
    refine hK _ ?_
    clear hK K
  apply relWalk_exg ?o59 (fun K hK => ?n59)
  case o59 =>
    intro W hC hF
    first | exact relOp_off rfl rfl rfl rfl | exact relOp_none rfl rfl rfl | skip
    all_goals
      refine relOp_on rfl rfl ?_
      go_simp
      all_goals exact ⟨Below.refl _ _, rfl⟩
  case' n59 =>
    go_simp
    refine hK _ ?_
    clear hK K
  apply relWalk_ex rfl ?o60 (fun K hK => ?n60)
  case o60 =>
    intro W hC hF
    go_simp
    all_goals exact ⟨Below.refl _ _, rfl⟩
  case' n60 =>
    go_simp
    refine hK _ ?_
    clear hK K
  apply relWalk_end
  intro W hC hF hU
  have HBw := Lib.hid hC.2.2.2
  clear hC hF hU HCo HSa HSn HF
  go_wp2_with fail
  go_ret
  exact ⟨rfl, HBw.out⟩
end Go.Proofs.YtmcgbjjcpcgcfaaGreatDoor
