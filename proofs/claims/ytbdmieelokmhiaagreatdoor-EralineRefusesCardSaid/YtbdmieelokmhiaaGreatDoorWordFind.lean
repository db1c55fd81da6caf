/-
  word.find: what the call returns.
-/
import Derived.Test.YtbdmieelokmhiaaGreatDoorWordIter
import Derived.Test.YtbdmieelokmhiaaGreatDoorWordSmall
import Derived.RangeFuncBox
import Derived.RegionIn
import Derived.OrdersIn
import Derived.Test.YtbdmieelokmhiaaGreatDoorBlk
set_option linter.unusedVariables false
namespace Go.Proofs.YtbdmieelokmhiaaGreatDoor
open Go.RowKit Go.Shelf
attribute [local go_sem] Oper.semAt_some

set_option maxHeartbeats 1000000 in
theorem beginning_any (sv : Value) (b : Addr) (m c : Nat) (hsv : sv = .slice (some b) m c) (s : ByteArray) (w : World) :
    Calls Tryz.prog 166 #[sv, .string s] w fun e w' => e = .returned (.func (.func 188) #[] #[.pointer (some ⟨w.heap.size, 0, none⟩), .pointer (some ⟨w.heap.size + 1, 0, none⟩)]) ∧
      w' = (w.alloc (.cells #[sv] 22)).alloc (.cells #[.string s] 9) := by
  subst hsv
  go_enter Tryz.func166, Tryz.ntmps166
  go_wp2
  go_ret
  exact ⟨rfl, rfl⟩

/-- what find answers, by what has been yielded -/
def findP (ps : List (Nat × List UInt8)) (s : List UInt8) : Nat × Bool :=
  match ps.find? (fun p => p.2 == s) with
  | some p => (p.1, true)
  | none => ((ps.getLast?.map (·.1)).getD 0, ps.length == 1)

def CellIs (W : World) (g : Nat) (v : Value) : Prop := W.cell? ⟨g, 0, none⟩ = some v ∧ W.frozen? ⟨g, 0, none⟩ = false
theorem CellIs.kept {W W' : World} {g : Nat} {v : Value} {row : Option Nat} (h : CellIs W g v) (hg : W.grownBy W' row) (hr : ∀ r, row = some r → ∃ o : Obj, W.heap[r]? = some o ∧ o.isCells = false) : CellIs W' g v :=
  ⟨cell_kept h.1 hg hr, (frozen_kept h.1 hg hr).trans h.2⟩
theorem CellIs.of_blk {W : World} {g : Nat} {t : TypeId} {v : Value} (h : Blk W g t #[v]) : CellIs W g v := ⟨h.cell_ (i := 0) rfl, h.frozen 0⟩
theorem CellIs.set_ {W : World} {g : Nat} {v : Value} (h : CellIs W g v) (u : Value) : CellIs (W.setCell ⟨g, 0, none⟩ u) g u :=
  ⟨World.cell?_setCell_same' _ _ _ (by rw [h.1]; rfl), by rw [World.frozen?_setCell]; exact h.2⟩
theorem CellIs.far {W : World} {g g' : Nat} {v : Value} (h : CellIs W g v) (hne : g' ≠ g) (u : Value) : CellIs (W.setCell ⟨g', 0, none⟩ u) g v :=
  ⟨(World.cell?_setCell_other _ _ _ _ (by simp)).trans h.1, by rw [World.frozen?_setCell]; exact h.2⟩
theorem kpF_b {n₀ Bs : Nat} {w : World} (hn : n₀ ≤ w.heap.size) (W : World) (l : Nat) (o o' : Obj) (hl : w.heap.size ≤ l) (h : W.heap[l]? = some o) (hc : o.isCells = false) (hw : o.isWalk = false) : KpF n₀ Bs W (W.putObj l o') :=
  ⟨belowK_b hn W l o o' hl h hc hw, fun v hv => cell_kept hv (grownBy_putObj' _ l o') (fun r e => by cases e; exact ⟨_, h, hc⟩)⟩

/-- between two rounds of find -/
def FI (B M : Nat) (w : World) (s : List UInt8) (pre : List (Nat × List UInt8)) (W : World) : Prop :=
  (CellIs W B (.string ⟨s.toArray⟩) ∧ CellIs W (B + 1) (.int .i64 0) ∧ CellIs W (B + 1 + 1) (.bool false) ∧ CellIs W M (.int .i64 (((pre.getLast?.map (·.1)).getD 0 : Nat) : Int)) ∧ CellIs W (M + 1) (.int .i64 (pre.length : Int)) ∧
    CellIs W (M + 1 + 1 + 1) (.string ⟨s.toArray⟩) ∧ ∀ p ∈ pre, p.2 ≠ s) ∧ Below w.heap.size w W
/-- where find has left its loop -/
def FX (B : Nat) (w : World) (s : List UInt8) (c : Code) (pre : List (Nat × List UInt8)) (W : World) : Prop :=
  (c = .ret ∧ (∃ q p, pre = q ++ [p] ∧ p.2 = s ∧ (∀ x ∈ q, x.2 ≠ s) ∧ CellIs W (B + 1) (.int .i64 (p.1 : Int))) ∧ CellIs W (B + 1 + 1) (.bool true)) ∧ Below w.heap.size w W

theorem CellIs.drew {W : World} {g : Nat} {v : Value} (h : CellIs W g v) : CellIs W.drew g v := h
theorem fi_snoc {B M : Nat} {w W W' : World} {s xl : List UInt8} {xi : Nat} {pre : List (Nat × List UInt8)} (h : FI B M w s pre W) (hx : ¬ xl = s)
    (h1 : ∀ g v, g ≠ M → g ≠ M + 1 → CellIs W g v → CellIs W' g v) (hM : CellIs W' M (.int .i64 (xi : Int))) (hM1 : CellIs W' (M + 1) (.int .i64 ((pre.length : Int) + 1))) (hBM : B + 1 + 1 < M) (hb : Below w.heap.size w W') :
    FI B M w s (pre ++ [(xi, xl)]) W' := by
  obtain ⟨⟨r3, r4, r5, r6, r7, r9, hne⟩, _⟩ := h
  refine ⟨⟨h1 _ _ (by omega) (by omega) r3, h1 _ _ (by omega) (by omega) r4, h1 _ _ (by omega) (by omega) r5, by simpa using hM, by simpa using hM1, h1 _ _ (by omega) (by omega) r9, ?_⟩, hb⟩
  intro p hp
  rcases List.mem_append.1 hp with h | h
  · exact hne p h
  · simp at h; subst h; exact hx

theorem begTo_prefix (s : List UInt8) (ws : List (List UInt8)) {k n : Nat} (h : k ≤ n) : begTo s ws k <+: begTo s ws n := by
  obtain ⟨d, rfl⟩ := Nat.exists_eq_add_of_le h
  simp only [begTo, pairs, List.range_add, List.map_append, List.filter_append]
  exact List.prefix_append _ _
theorem findP_stop {s : List UInt8} {ws : List (List UInt8)} {k : Nat} {q : List (Nat × List UInt8)} {p : Nat × List UInt8} (hk : k ≤ ws.length) (h : begTo s ws k = q ++ [p]) (hp : p.2 = s) (hq : ∀ x ∈ q, x.2 ≠ s) :
    findP (begTo s ws ws.length) s = (p.1, true) := by
  obtain ⟨r, hr⟩ := begTo_prefix s ws hk
  rw [← hr, h]
  have h1 : (q ++ [p] ++ r).find? (fun p => p.2 == s) = some p := by
    rw [List.append_assoc, List.find?_append, List.find?_eq_none.2 (fun x hx => by simpa using hq x hx)]
    simp [hp]
  simp only [findP, h1]
theorem findP_none {ps : List (Nat × List UInt8)} {s : List UInt8} (h : ∀ p ∈ ps, p.2 ≠ s) : findP ps s = ((ps.getLast?.map (·.1)).getD 0, ps.length == 1) := by
  have h1 : ps.find? (fun p => p.2 == s) = none := List.find?_eq_none.2 (fun x hx => by simpa using h x hx)
  simp only [findP, h1]

theorem beg_stops (n : Nat) (hn : 3 ≤ n) (Bl Bs n₀ : Nat) (sv : Value) (ws : List (List UInt8)) (s : ByteArray) (hlen : ws.length ≤ 100) (w : World) (hBl : Bl < w.heap.size) (hBs : Bs < w.heap.size) (hn₀ : n₀ ≤ w.heap.size)
    (hcl : w.cell? ⟨Bl, 0, none⟩ = some sv) (hcs : w.cell? ⟨Bs, 0, none⟩ = some (.string s)) (hW : Words n₀ w sv ws) :
    SeqStopsK Fence.wide n Tryz.prog 188 #[.pointer (some ⟨Bl, 0, none⟩), .pointer (some ⟨Bs, 0, none⟩)] (fun x : Nat × List UInt8 => #[.int .i64 (x.1 : Int), .string ⟨x.2.toArray⟩]) (KpF n₀ Bs)
      (fun ys => ys = begTo s.data.toList ws ws.length) (fun pre => ∃ k, k ≤ ws.length ∧ pre = begTo s.data.toList ws k) ws.length w := fun l J Jx W hb _ _ hY h0 => by
  obtain ⟨b, cap, rfl, hlt, hc⟩ := hW
  have hc1 := (hb.cell (p := ⟨Bl, 0, none⟩) hBl).trans hcl
  have hc2 := (hb.cell (p := ⟨Bs, 0, none⟩) hBs).trans hcs
  exact beginning1_in n hn l Bl Bs n₀ b cap ws s hlen hlt J Jx hY W hc1 hc2 (fun j l hl => (hb.cell (p := ⟨b, j, none⟩) (show b < w.heap.size by omega)).trans (hc j l hl)) h0

set_option maxRecDepth 100000 in
set_option maxHeartbeats 2000000 in
theorem find_any (sv : Value) (ws : List (List UInt8)) (s : ByteArray) (w : World) (hW : Words w.heap.size w sv ws) (hlen : ws.length ≤ 100) (hs : s.size ≤ 1048576) :
    Calls Tryz.prog 137 #[sv, .string s] w fun e w' =>
      e = .returned (.tuple #[.int .i64 (findP (begTo (smallL s.data.toList) ws ws.length) (smallL s.data.toList)).1, .bool (findP (begTo (smallL s.data.toList) ws ws.length) (smallL s.data.toList)).2]) ∧ Below w.heap.size w w' := by
  have HW := Lib.hid hW
  obtain ⟨b, cap, rfl, hlt, hc⟩ := hW
  clear hc
  have hwf : ∀ f, Fence.wide.fn f := fun _ => trivial
  have hwd : Fence.wide.depth.isSome = false := rfl
  refine (callsIn_wide (n := 8)).1 ?_
  refine callsIn_of_wp_marks Tryz.func137 rfl trivial ?_ rfl
  simp only [Tryz.ntmps137, List.size_toArray, List.length_cons, List.length_nil, Nat.reduceAdd, Nat.reduceSub, Array.replicate_succ, Array.replicate_zero, List.push_toArray, List.append_toArray, List.nil_append, List.cons_append]
  gi_wp2_with fail
  refine (callsIn_wide.2 (small_any _ _ hs)).mono ?_
  rintro e w1 ⟨rfl, hb1⟩
  have b3 : Blk w1 w.heap.size 9 #[.string s] := ((((Blk.new' w _ _ rfl).alloc _).alloc _).below hb1 (by simp; omega))
  have b4 : Blk w1 (w.heap.size + 1) 3 #[.int .i64 0] := (((Blk.new' _ _ _ (by simp)).alloc _).below hb1 (by simp))
  have b5 : Blk w1 (w.heap.size + 1 + 1) 4 #[.bool false] := ((Blk.new' _ _ _ (by simp)).below hb1 (by simp))
  have hbw1 : Below w.heap.size w w1 := ((((Below.refl _ w).alloc (Nat.le_refl _) _).alloc (by simp) _).alloc (by simp; omega) _).trans (hb1.mono (by simp; omega))
  have c3 := b3.cell_ (i := 0) rfl
  have f3 := b3.frozen 0
  have c33 : (((w1.setCell ⟨w.heap.size, 0, none⟩ (.string ⟨(smallL s.data.toList).toArray⟩)).alloc (.cells #[.int .i64 0] 3)).alloc (.cells #[.int .i64 0] 3)).cell? ⟨w.heap.size, 0, none⟩ = some (.string ⟨(smallL s.data.toList).toArray⟩) :=
    (((b3.set_ 0 _).alloc _).alloc _).cell_ (i := 0) rfl
  have hz := hb1.size
  simp at hz
  have HB1 := Lib.hid hbw1
  have HB3 := Lib.hid b3
  have HB4 := Lib.hid b4
  have HB5 := Lib.hid b5
  clear hb1 hbw1 b3 b4 b5
  gi_wp2_with fail
  refine (callsIn_wide.2 (beginning_any _ _ _ _ rfl _ _)).mono ?_
  rintro e w2 ⟨rfl, hw2⟩
  have q3 : Blk w2 w.heap.size 9 #[.string ⟨(smallL s.data.toList).toArray⟩] := by rw [hw2]; exact ((((Blk.set_ HB3.out 0 _).alloc _).alloc _).alloc _).alloc _
  have q4 : Blk w2 (w.heap.size + 1) 3 #[.int .i64 0] := by rw [hw2]; exact ((((Blk.far HB4.out (by simp) _).alloc _).alloc _).alloc _).alloc _
  have q5 : Blk w2 (w.heap.size + 1 + 1) 4 #[.bool false] := by rw [hw2]; exact ((((Blk.far HB5.out (by simp; omega) _).alloc _).alloc _).alloc _).alloc _
  have q6 : Blk w2 w1.heap.size 3 #[.int .i64 0] := by rw [hw2]; exact (((Blk.new' _ _ _ (by simp)).alloc _).alloc _).alloc _
  have q7 : Blk w2 (w1.heap.size + 1) 3 #[.int .i64 0] := by rw [hw2]; exact ((Blk.new' _ _ _ (by simp)).alloc _).alloc _
  have q8 : Blk w2 (w1.heap.size + 1 + 1) 22 #[.slice (some ⟨b, 0, none⟩) ws.length cap] := by rw [hw2]; exact (Blk.new' _ _ _ (by simp)).alloc _
  have q9 : Blk w2 (w1.heap.size + 1 + 1 + 1) 9 #[.string ⟨(smallL s.data.toList).toArray⟩] := by rw [hw2]; exact (Blk.new' _ _ _ (by simp))
  have hbw2 : Below w.heap.size w w2 := by rw [hw2]; exact ((((HB1.out.setCell (Nat.le_refl _) _).alloc (by simp; omega) _).alloc (by simp; omega) _).alloc (by simp; omega) _).alloc (by simp; omega) _
  have hz2 : w2.heap.size = w1.heap.size + 1 + 1 + 1 + 1 := by rw [hw2]; simp
  simp only [World.size_alloc, World.size_setCell]
  have HW2 := Lib.hid (Words.below HW.out hbw2)
  have HI0 := Lib.hid (show FI w.heap.size w1.heap.size w (smallL s.data.toList) [] w2 from ⟨⟨CellIs.of_blk q3, CellIs.of_blk q4, CellIs.of_blk q5, CellIs.of_blk q6, CellIs.of_blk q7, CellIs.of_blk q9, by simp⟩, hbw2⟩)
  have HQ8 := Lib.hid (q8.cell_ (i := 0) rfl)
  have HQ9 := Lib.hid (q9.cell_ (i := 0) rfl)
  have HZ2 := Lib.hid hz2
  have HBW2 := Lib.hid hbw2
  clear hw2 q3 q4 q5 q6 q7 q8 q9 hz2 hbw2 c3 f3 c33 HB3 HB4 HB5
  gi_wp2_with fail
  refine wpIn_rangeFunc_ownF rfl (by omega) (gf := 188) (lb := #[.pointer (some ⟨w1.heap.size + 1 + 1, 0, none⟩), .pointer (some ⟨w1.heap.size + 1 + 1 + 1, 0, none⟩)]) rfl trivial (enters_of Tryz.func188 (by kernel_rfl) rfl)
    (beg_stops 7 (by omega) (w1.heap.size + 1 + 1) (w1.heap.size + 1 + 1 + 1) w.heap.size _ ws ⟨(smallL s.data.toList).toArray⟩ hlen w2 (by rw [HZ2.out]; omega) (by rw [HZ2.out]; omega) HBW2.out.size HQ8.out HQ9.out HW2.out) (fun h k => h.trans k) (kpF_b (w := w2) HBW2.out.size) (Below.refl _ _) (fun _ => rfl)
    (FI w.heap.size w1.heap.size w (smallL s.data.toList)) (FX w.heap.size w (smallL s.data.toList))
    ?hI ?hIx HI0.out
    (fun x => { tmps := #[.slice (some ⟨b, 0, none⟩) ws.length cap, .string s, undef, .pointer (some ⟨w.heap.size, 0, none⟩), .pointer (some ⟨w.heap.size + 1, 0, none⟩), .pointer (some ⟨w.heap.size + 1 + 1, 0, none⟩), .pointer (some ⟨w1.heap.size, 0, none⟩), .pointer (some ⟨w1.heap.size + 1, 0, none⟩), .int .i64 (x.1 : Int), .string ⟨x.2.toArray⟩, .string s, .string ⟨(smallL s.data.toList).toArray⟩, .slice (some ⟨b, 0, none⟩) ws.length cap, .string ⟨(smallL s.data.toList).toArray⟩, .func (.func 188) #[] #[.pointer (some ⟨w1.heap.size + 1 + 1, 0, none⟩), .pointer (some ⟨w1.heap.size + 1 + 1 + 1, 0, none⟩)], .int .i64 (x.1 : Int), .string ⟨x.2.toArray⟩, undef, undef, undef, undef, undef, undef, undef, undef, undef, undef], defers := [] }) ?assign ?body ?done ?stop
  case hI => exact OwnFrom.and (Own.from (fun s A B row hs hg hr => ⟨hs.1.kept hg hr, hs.2.1.kept hg hr, hs.2.2.1.kept hg hr, hs.2.2.2.1.kept hg hr, hs.2.2.2.2.1.kept hg hr, hs.2.2.2.2.2.1.kept hg hr, hs.2.2.2.2.2.2⟩) _) (ownFrom_below (Nat.le_refl _) HBW2.out.size)
  case hIx => exact fun c => OwnFrom.and (Own.from (fun s A B row hs hg hr => ⟨hs.1, (let ⟨q, p, e1, e2, e3, e4⟩ := hs.2.1; ⟨q, p, e1, e2, e3, e4.kept hg hr⟩), hs.2.2.kept hg hr⟩) _) (ownFrom_below (Nat.le_refl _) HBW2.out.size)
  case assign =>
    intro l x W K hK
    gi_wp2
    exact hK
  case body =>
    rintro l pre ⟨xi, xl⟩ W ⟨⟨r3, r4, r5, r6, r7, r9, hne⟩, hB⟩ hpl
    have c3 := r3.1
    have c4 := r4.1
    have f4 := r4.2
    have c5 := r5.1
    have f5 := r5.2
    have c6 := r6.1
    have f6 := r6.2
    have c7 := r7.1
    have f7 := r7.2
    have R := Lib.hid (And.intro r3 (And.intro r4 (And.intro r5 (And.intro r6 (And.intro r7 r9)))))
    have HNE := Lib.hid hne
    clear r3 r4 r5 r6 r7 r9 hne HI0 HQ8 HQ9 HW2
    by_cases hx : xl = smallL s.data.toList
    · subst hx
      obtain ⟨r3, r4, r5, r6, r7, r9⟩ := R.out
      gi_wp2
      refine ⟨(KeepsOthers.setCell _ _ _).trans (KeepsOthers.setCell _ _ _), ⟨rfl, ⟨pre, (xi, _), rfl, rfl, HNE.out, (r4.set_ _).far (by omega) _⟩, (r5.far (by omega) _).set_ _⟩, (hB.setCell (by show w.heap.size ≤ w.heap.size + 1; omega) _).setCell (by show w.heap.size ≤ w.heap.size + 1 + 1; omega) _⟩
    · have hxb : (xl == smallL s.data.toList) = false := beq_eq_false_iff_ne.2 hx
      have hpl2 : pre.length < 100 := by omega
      have mixed : Tryz.prog.follows Departure.mixedOrders = true := by kernel_rfl
      have hwr : IntKind.i64.wrap ((pre.length : Int) + 1) = (pre.length : Int) + 1 := IntWalk.i64_in _ (by omega)
      gi_wp2
      gi_region_with_o (fail)
      all_goals
        obtain ⟨r3, r4, r5, r6, r7, r9⟩ := R.out
        have hb1 : Below w.heap.size W ((W.setCell ⟨w1.heap.size, 0, none⟩ (.int .i64 (xi : Int))).setCell ⟨w1.heap.size + 1, 0, none⟩ (.int .i64 ((pre.length : Int) + 1))).drew :=
          (((Below.refl _ W).setCell (by show w.heap.size ≤ w1.heap.size; omega) _).setCell (by show w.heap.size ≤ w1.heap.size + 1; omega) _).drew
        have h1 : ∀ g v, g ≠ w1.heap.size → g ≠ w1.heap.size + 1 → CellIs W g v → CellIs ((W.setCell ⟨w1.heap.size, 0, none⟩ (.int .i64 (xi : Int))).setCell ⟨w1.heap.size + 1, 0, none⟩ (.int .i64 ((pre.length : Int) + 1))).drew g v :=
          fun g v e1 e2 h => ((h.far (Ne.symm e1) _).far (Ne.symm e2) _).drew
        refine ⟨((KeepsOthers.setCell _ _ _).trans (KeepsOthers.setCell _ _ _)).trans (KeepsOthers.drew _), ⟨hb1, fun v hv => ?_⟩, fi_snoc ⟨⟨r3, r4, r5, r6, r7, r9, HNE.out⟩, hB⟩ hx h1 ((r6.set_ _).far (by omega) _).drew ((r7.far (by omega) _).set_ _).drew (by omega) (hB.trans hb1)⟩
        exact (World.cell?_setCell_other _ _ _ _ (by simp)).trans ((World.cell?_setCell_other _ _ _ _ (by simp)).trans hv)
  case done =>
    rintro D ys W hD hys ⟨⟨r3, r4, r5, r6, r7, r9, hne⟩, hB⟩ hK
    have HYS := Lib.hid hys
    clear hys
    have c4 := r4.1
    have f4 := r4.2
    have c5 := r5.1
    have f5 := r5.2
    have c6 := r6.1
    have f6 := r6.2
    have c7 := r7.1
    have f7 := r7.2
    have mixed : Tryz.prog.follows Departure.mixedOrders = true := by kernel_rfl
    have HNE := Lib.hid hne
    have R := Lib.hid (And.intro r4 r5)
    clear r3 r4 r5 r6 r7 r9 hne HI0 HQ8 HQ9 HW2
    gi_wp2
    gi_region
    all_goals gi_wp2
    all_goals
      obtain ⟨r4, r5⟩ := R.out
      have hK' := (((KeepsOthers.setCell W ⟨w.heap.size + 1, 0, none⟩ (.int .i64 (((ys.getLast?.map (·.1)).getD 0 : Nat) : Int))).trans (KeepsOthers.setCell _ ⟨w.heap.size + 1 + 1, 0, none⟩ (.bool ((ys.length : Int) == 1)))).trans (KeepsOthers.drew _)).same D _ hK rfl
      refine ⟨by simp, .inl ⟨_, _, rfl, run_takeDeferred hK', ?_⟩⟩
      have g4 := cell_kept ((r4.set_ (.int .i64 (((ys.getLast?.map (·.1)).getD 0 : Nat) : Int))).far (g' := w.heap.size + 1 + 1) (by omega) (.bool ((ys.length : Int) == 1))).drew.1 (grownBy_putObj' _ D (.deferred none)) (fun r e => by cases e; exact ⟨_, hK', rfl⟩)
      have g5 := cell_kept ((r5.far (g' := w.heap.size + 1) (by omega) (.int .i64 (((ys.getLast?.map (·.1)).getD 0 : Nat) : Int))).set_ (.bool ((ys.length : Int) == 1))).drew.1 (grownBy_putObj' _ D (.deferred none)) (fun r e => by cases e; exact ⟨_, hK', rfl⟩)
      refine ⟨.tuple #[.int .i64 (((ys.getLast?.map (·.1)).getD 0 : Nat) : Int), .bool ((ys.length : Int) == 1)], ?_, ?_, ((hB.setCell (by show w.heap.size ≤ w.heap.size + 1; omega) _).setCell (by show w.heap.size ≤ w.heap.size + 1 + 1; omega) _).drew.trans (belowK_b (w := w) (Nat.le_refl _) _ D _ _ (by have := HBW2.out.size; omega) hK' rfl rfl)⟩
      · simp [results, Tryz.f137, go_sem, g4, g5]
      · rw [← HYS.out, findP_none HNE.out]
        rw [show ((ys.length : Int) == 1) = (ys.length == 1) by rw [Bool.eq_iff_iff]; simp; omega]
  case stop =>
    rintro D c pre W hD ⟨k, hk, hbk⟩ ⟨⟨rfl, ⟨q, p, hpre, hp, hq, r4⟩, r5⟩, hB⟩ hK
    have HF := Lib.hid (show findP (begTo (smallL s.data.toList) ws ws.length) (smallL s.data.toList) = (p.1, true) from findP_stop hk (hbk ▸ hpre) hp hq)
    gi_wp2
    refine ⟨by simp, .inl ⟨_, _, rfl, run_takeDeferred hK, ?_⟩⟩
    have g4 := cell_kept r4.1 (grownBy_putObj' _ D (.deferred none)) (fun r e => by cases e; exact ⟨_, hK, rfl⟩)
    have g5 := cell_kept r5.1 (grownBy_putObj' _ D (.deferred none)) (fun r e => by cases e; exact ⟨_, hK, rfl⟩)
    refine ⟨.tuple #[.int .i64 (p.1 : Int), .bool true], ?_, by rw [HF.out], hB.trans (belowK_b (w := w) (Nat.le_refl _) W D _ _ (by have := HBW2.out.size; omega) hK rfl rfl)⟩
    simp [results, Tryz.f137, go_sem, g4, g5]
end Go.Proofs.YtbdmieelokmhiaaGreatDoor
