/-
  PrinterApart of the law of layer 14: what the call returns.
-/
import Derived.Test.YtmcgbjjcpcgcfaaGreatDoorSrcMut
import Derived.Test.YtmcgbjjcpcgcfaaGreatDoorRefSame
set_option linter.unusedVariables false
set_option linter.unusedSimpArgs false
namespace Go.Proofs.YtmcgbjjcpcgcfaaGreatDoor
open Go.RowKit Go.Shelf

theorem r14same_s {s s' : SourceP} {v v' : Value} {W : World} (h1 : SrcV s v W) (h2 : SrcV s' v' W) (n1 : SrcLn s) (n2 : SrcLn s') : Calls Tryz.prog 13 #[v, v'] W fun e w' => e = .returned (.bool (decide (s = s'))) ∧ Below W.heap.size W w' := by
  obtain ⟨r, z, l, h, zs, rfl, k⟩ := h1
  obtain ⟨r', z', l', h', zs', rfl, k'⟩ := h2
  exact r14same_any _ _ _ _ _ _ _ _ _ _ _ _ _ k k' n1 n2
theorem own_cell {α : Type} (enc : α → Array Value) {m : Nat} (hs : ∀ x, (enc x).size = m) {W : World} {B e n c g : Nat} {l : List α} (h : W.ownsRow B e m (.slice (some ⟨g, 0, none⟩) n c) n (flatC enc l)) {k j : Nat} {x : α} {u : Value} (hx : l[k]? = some x) (hj : j < m) (hu : (enc x).toList[j]? = some u) : W.cell? ⟨g, k * m + j, none⟩ = some u ∧ W.frozen? ⟨g, k * m + j, none⟩ = false := by
  have h1 := World.ownsRow.cells h (g := g) rfl
  have h2 := flatC_at hs l k j x hx hj
  have h3 := h1 (k * m + j) u (by rw [h2]; exact hu)
  rw [Addr.add_lit, Nat.zero_add] at h3
  obtain ⟨⟨C, hC⟩, _⟩ := own_blk h
  exact ⟨h3, hC.frozen _⟩
/-- what the law holds of the first source and of its draft -/
structure AF (w : World) (ga : Nat) (D A : Array Value) (d : DraftP) (W : World) : Prop where
  a : Blk W ga 27 A
  av : SrcV (srcM d) (.agg A) W
  dr : Blk W w.heap.size 39 D
  dv : DraftV d (.agg D) W
  bel : Below w.heap.size w W
/-- the copy -/
structure AS (wA : World) (gc : Nat) (d : DraftP) (cc : List ZV) (v1 zv v3 v4 : Value) (W : World) : Prop where
  sb : SB wA.heap.size gc (srcM d).rules cc (srcM d).links (srcM d).shifts v1 zv v3 v4 W
  bel : Below wA.heap.size wA W
  gsl : wA.heap.size ≤ gc
  ap : EraApart cc.length cc
theorem AS.below {wA W W' : World} {gc : Nat} {d : DraftP} {cc : List ZV} {v1 zv v3 v4 : Value} (h : AS wA gc d cc v1 zv v3 v4 W) (hb : Below W.heap.size W W') : AS wA gc d cc v1 zv v3 v4 W' := ⟨h.sb.below hb, h.bel.trans (hb.mono h.bel.size), h.gsl, h.ap⟩
theorem AS.lowOf {wA W : World} {gc : Nat} {d : DraftP} {cc : List ZV} {v1 zv v3 v4 : Value} (h : AS wA gc d cc v1 zv v3 v4 W) : Low W.heap.size v1 ∧ Low W.heap.size zv ∧ Low W.heap.size v3 ∧ Low W.heap.size v4 ∧ (∀ q ∈ cc, Low W.heap.size q.1.2) ∧ gc < W.heap.size ∧ wA.heap.size ≤ W.heap.size := ⟨low_of h.sb.rule, low_of h.sb.zone, low_of h.sb.link, low_of h.sb.str, fun q hq => low_of (h.sb.eras q hq), h.sb.out.lt, h.bel.size⟩
theorem AS.farL {wA W : World} {gc L : Nat} {d : DraftP} {cc : List ZV} {v1 zv v3 v4 : Value} (h : AS wA gc d cc v1 zv v3 v4 W) (hl : Low L v1 ∧ Low L zv ∧ Low L v3 ∧ Low L v4 ∧ (∀ q ∈ cc, Low L q.1.2) ∧ gc < L ∧ wA.heap.size ≤ L) {q j : Nat} (hq : L ≤ q) (u : Value) : AS wA gc d cc v1 zv v3 v4 (W.setCell ⟨q, j, none⟩ u) := by
  obtain ⟨l1, l2, l3, l4, l5, l6, l7⟩ := hl
  exact ⟨⟨h.sb.out.far (by show gc ≠ q; omega) u, own_farL h.sb.rule l1 hq u, own_farL h.sb.zone l2 hq u, own_farL h.sb.link l3 hq u, own_farL h.sb.str l4 hq u, fun x hx => own_farL (h.sb.eras x hx) (l5 x hx) hq u⟩, h.bel.setCell (by show wA.heap.size ≤ q; omega) u, h.gsl, h.ap⟩
def NewZ (B : Nat) (u : Value) (W : World) : Prop := ∃ g, u = .pointer (some ⟨g, 0, none⟩) ∧ Blk W g 50 #[.string ⟨#[]⟩, .slice none 0 0] ∧ B ≤ g
theorem NewZ.last (B : Nat) : Lasts (NewZ B) := fun u W W2 hb ⟨g, e, h1, h2⟩ => ⟨g, e, h1.below hb h1.lt, h2⟩
theorem str_x (l : List UInt8) : (⟨l.toArray⟩ : ByteArray) ++ ⟨#[120]⟩ = ⟨(l ++ [120]).toArray⟩ := by rw [ba_append]; simp
theorem sov_src {B : Nat} {s : SourceP} {u : Value} {W : World} (h : SOV B s u W) : SrcV s u W := by
  obtain ⟨v1, zv, v3, v4, cur, rfl, hz, hs⟩ := h
  refine ⟨_, _, _, _, cur.map (·.1), rfl, rows_of_own (by decide) (fun x => (rule_cells x).1) hs.rule, ?_, ?_, ?_, rows_of_own (by decide) (fun x => (link_cells x).1) hs.link, rows_of_own (by decide) (fun x => rfl) hs.str⟩
  · have hz := rows_of_own (by decide) (fun x => (zone_cells x).1) hs.zone
    obtain ⟨p, c, rfl⟩ := own_form hs.zone
    exact RowsAt.map_ hz rfl
  · rw [← hz]; simp only [List.map_map]; rfl
  · intro q hq
    obtain ⟨x, hx, rfl⟩ := List.mem_map.1 hq
    exact rows_of_own (by decide) (fun x => (eraOk_cells x).1) (hs.eras x hx)
def SrcB (wA : World) (gc : Nat) (X : Array Value) (s' : SourceP) (W : World) : Prop := Blk W gc 27 X ∧ SrcV s' (.agg X) W ∧ Below wA.heap.size wA W
theorem SrcB.below {wA W W' : World} {gc : Nat} {X : Array Value} {s' : SourceP} (h : SrcB wA gc X s' W) (hb : Below W.heap.size W W') : SrcB wA gc X s' W' := ⟨h.1.below hb h.1.lt, by obtain ⟨r, z, l, h', zs, e, k⟩ := h.2.1; exact ⟨r, z, l, h', zs, e, k.now hb⟩, h.2.2.trans (hb.mono h.2.2.size)⟩


set_option maxRecDepth 100000 in
set_option maxHeartbeats 16000000 in
theorem papart_any (va : Value) (d : DraftP) (n : Nat) (w : World) (ha : DraftV d va w) (hn : n < 256) (hT : ETabs w) (hR : RTabs w) :
    Calls Tryz.prog 6 #[va, .int .u8 (n : Int)] w fun e w' => e = .returned (.bool true) ∧ Below w.heap.size w w' := by
  have HTT := Lib.hid (fun W (hW : Below w.heap.size w W) => And.intro (hT.below hW) (hR.below hW))
  obtain ⟨irule, zrule, hirule, hzrule, hszrule, hbyrule, hzcrule⟩ := info_st (P := Tryz.prog) (e := 47) (k := 11) (by kernel_rfl)
  obtain ⟨izone, zzone, hizone, hzzone, hszzone, hbyzone, hzczone⟩ := info_st (P := Tryz.prog) (e := 50) (k := 2) (by kernel_rfl)
  obtain ⟨ilink, zlink, hilink, hzlink, hszlink, hbylink, hzclink⟩ := info_st (P := Tryz.prog) (e := 58) (k := 2) (by kernel_rfl)
  obtain ⟨istr, zstr, histr, hzstr, hszstr, hbystr, hzcstr⟩ := info_st (P := Tryz.prog) (e := 9) (k := 1) (by kernel_rfl)
  obtain ⟨p1, n1, c1, p2, n2, c2, p3, n3, c3, p4, n4, c4, p5, n5, c5, rfl⟩ := draft_slices ha
  have hb0 : Below w.heap.size w (w.alloc (.cells #[.slice p1 n1 c1, .slice p2 n2 c2, .slice p3 n3 c3, .slice p4 n4 c4, .slice p5 n5 c5] 39)) := (Below.refl _ _).alloc (Nat.le_refl _) _
  have HS0 := Lib.hid (show Blk (w.alloc (.cells #[.slice p1 n1 c1, .slice p2 n2 c2, .slice p3 n3 c3, .slice p4 n4 c4, .slice p5 n5 c5] 39)) w.heap.size 39 #[.slice p1 n1 c1, .slice p2 n2 c2, .slice p3 n3 c3, .slice p4 n4 c4, .slice p5 n5 c5] ∧ DraftV d (.agg #[.slice p1 n1 c1, .slice p2 n2 c2, .slice p3 n3 c3, .slice p4 n4 c4, .slice p5 n5 c5]) (w.alloc (.cells #[.slice p1 n1 c1, .slice p2 n2 c2, .slice p3 n3 c3, .slice p4 n4 c4, .slice p5 n5 c5] 39)) ∧ Below w.heap.size w (w.alloc (.cells #[.slice p1 n1 c1, .slice p2 n2 c2, .slice p3 n3 c3, .slice p4 n4 c4, .slice p5 n5 c5] 39)) from ⟨Blk.new' _ _ _ rfl, ha.below hb0, hb0⟩)
  clear ha hb0 hT hR
  go_enter Tryz.func6, Tryz.ntmps6
  go_upto_region 1 with fail
  generalize w.alloc (.cells #[.slice p1 n1 c1, .slice p2 n2 c2, .slice p3 n3 c3, .slice p4 n4 c4, .slice p5 n5 c5] 39) = w0 at *
  have a0 := HS0.out.1.cell_ (i := 0) rfl
  have a1 := HS0.out.1.cell_ (i := 1) rfl
  have a2 := HS0.out.1.cell_ (i := 2) rfl
  have a3 := HS0.out.1.cell_ (i := 3) rfl
  have a4 := HS0.out.1.cell_ (i := 4) rfl
  have HM := Lib.hid (made14_src HS0.out.2.1 HS0.out.2.2.size)
  go_wp2_with fail
  refine HM.out.mono ?_
  rintro e w1 ⟨⟨u, rfl, v1, zv, v3, v4, cur, rfl, hcur, hso⟩, hb⟩
  obtain ⟨q1, d1, rfl⟩ := own_form hso.rule
  obtain ⟨q2, d2, rfl⟩ := own_form hso.zone
  obtain ⟨q3, d3, rfl⟩ := own_form hso.link
  obtain ⟨q4, d4, rfl⟩ := own_form hso.str
  have hB1 : Below w.heap.size w w1 := HS0.out.2.2.trans (hb.mono HS0.out.2.2.size)
  have ha1 : Below w1.heap.size w1 (w1.alloc (.cells #[.slice q1 (srcM d).rules.length d1, .slice q2 cur.length d2, .slice q3 (srcM d).links.length d3, .slice q4 (srcM d).shifts.length d4] 27)) := (Below.refl _ _).alloc (Nat.le_refl _) _
  have HD1 := Lib.hid (show Blk (w1.alloc (.cells #[.slice q1 (srcM d).rules.length d1, .slice q2 cur.length d2, .slice q3 (srcM d).links.length d3, .slice q4 (srcM d).shifts.length d4] 27)) w.heap.size 39 #[.slice p1 n1 c1, .slice p2 n2 c2, .slice p3 n3 c3, .slice p4 n4 c4, .slice p5 n5 c5] ∧ DraftV d (.agg #[.slice p1 n1 c1, .slice p2 n2 c2, .slice p3 n3 c3, .slice p4 n4 c4, .slice p5 n5 c5]) (w1.alloc (.cells #[.slice q1 (srcM d).rules.length d1, .slice q2 cur.length d2, .slice q3 (srcM d).links.length d3, .slice q4 (srcM d).shifts.length d4] 27)) from ⟨HS0.out.1.below (hb.trans (ha1.mono hb.size)) HS0.out.1.lt, HS0.out.2.1.below (hb.trans (ha1.mono hb.size))⟩)
  have HS1 := Lib.hid (show SB w.heap.size w1.heap.size (srcM d).rules cur (srcM d).links (srcM d).shifts (.slice q1 (srcM d).rules.length d1) (.slice q2 cur.length d2) (.slice q3 (srcM d).links.length d3) (.slice q4 (srcM d).shifts.length d4) (w1.alloc (.cells #[.slice q1 (srcM d).rules.length d1, .slice q2 cur.length d2, .slice q3 (srcM d).links.length d3, .slice q4 (srcM d).shifts.length d4] 27)) ∧ Below w.heap.size w (w1.alloc (.cells #[.slice q1 (srcM d).rules.length d1, .slice q2 cur.length d2, .slice q3 (srcM d).links.length d3, .slice q4 (srcM d).shifts.length d4] 27)) ∧ w.heap.size ≤ w1.heap.size from ⟨SB.of_so (hso.below ha1) (Blk.new' _ _ _ rfl), hB1.trans (ha1.mono hB1.size), hB1.size⟩)
  have HCU := Lib.hid hcur
  clear hb a0 a1 a2 a3 a4 HM HS0 hso ha1 hB1 hcur
  go_upto_region 2 with fail
  generalize w1.alloc (.cells #[.slice q1 (srcM d).rules.length d1, .slice q2 cur.length d2, .slice q3 (srcM d).links.length d3, .slice q4 (srcM d).shifts.length d4] 27) = wA at *
  generalize w1.heap.size = ga at *
  have b0 := HS1.out.1.out.cell_ (i := 0) rfl
  have b1 := HS1.out.1.out.cell_ (i := 1) rfl
  have b2 := HS1.out.1.out.cell_ (i := 2) rfl
  have b3 := HS1.out.1.out.cell_ (i := 3) rfl
  have es : (⟨(srcM d).rules, cur.map (fun q => q.1.1), (srcM d).links, (srcM d).shifts⟩ : SourceP) = srcM d := by rw [HCU.out]
  have HCO := Lib.hid (copy_own _ _ _ _ _ _ _ (by have h := HS1.out.1.src; rw [es] at h; exact h) (srcM_Small d).ln)
  clear es
  go_wp2_with fail
  refine HCO.out.mono ?_
  rintro e w3 ⟨⟨v1, zv, v3, v4, cc, rfl, hcc, hso, hap⟩, hb⟩
  obtain ⟨m1, k1, rfl⟩ := own_form hso.rule
  obtain ⟨m2, k2, rfl⟩ := own_form hso.zone
  obtain ⟨m3, k3, rfl⟩ := own_form hso.link
  obtain ⟨m4, k4, rfl⟩ := own_form hso.str
  have ha3 : Below w3.heap.size w3 (w3.alloc (.cells #[.slice m1 (srcM d).rules.length k1, .slice m2 cc.length k2, .slice m3 (srcM d).links.length k3, .slice m4 (srcM d).shifts.length k4] 27)) := (Below.refl _ _).alloc (Nat.le_refl _) _
  have hb3 : Below wA.heap.size wA (w3.alloc (.cells #[.slice m1 (srcM d).rules.length k1, .slice m2 cc.length k2, .slice m3 (srcM d).links.length k3, .slice m4 (srcM d).shifts.length k4] 27)) := hb.trans (ha3.mono hb.size)
  have HAF := Lib.hid (show ∀ W, Below wA.heap.size wA W → AF w ga #[.slice p1 n1 c1, .slice p2 n2 c2, .slice p3 n3 c3, .slice p4 n4 c4, .slice p5 n5 c5] #[.slice q1 (srcM d).rules.length d1, .slice q2 cur.length d2, .slice q3 (srcM d).links.length d3, .slice q4 (srcM d).shifts.length d4] d W from fun W hW => ⟨HS1.out.1.out.below hW HS1.out.1.out.lt, ⟨_, _, _, _, _, rfl, by have h := HS1.out.1.src.now hW; rw [HCU.out] at h; exact h⟩, HD1.out.1.below hW HD1.out.1.lt, HD1.out.2.below hW, HS1.out.2.1.trans (hW.mono HS1.out.2.1.size)⟩)
  have HS4 := Lib.hid (show AS wA w3.heap.size d cc (.slice m1 (srcM d).rules.length k1) (.slice m2 cc.length k2) (.slice m3 (srcM d).links.length k3) (.slice m4 (srcM d).shifts.length k4) (w3.alloc (.cells #[.slice m1 (srcM d).rules.length k1, .slice m2 cc.length k2, .slice m3 (srcM d).links.length k3, .slice m4 (srcM d).shifts.length k4] 27)) from ⟨SB.of_so (hso.below ha3) (Blk.new' _ _ _ rfl), hb3, hb.size, hap⟩)
  have HCC := Lib.hid hcc
  have HLN := Lib.hid (srcM_Small d).ln
  have HSV := Lib.hid (show ∀ W, AS wA w3.heap.size d cc (.slice m1 (srcM d).rules.length k1) (.slice m2 cc.length k2) (.slice m3 (srcM d).links.length k3) (.slice m4 (srcM d).shifts.length k4) W → SrcV (srcM d) (.agg #[.slice m1 (srcM d).rules.length k1, .slice m2 cc.length k2, .slice m3 (srcM d).links.length k3, .slice m4 (srcM d).shifts.length k4]) W from fun W h => ⟨_, _, _, _, _, rfl, by have h := h.sb.src; rw [HCC.out] at h; exact h⟩)
  clear hb ha3 hb3 hso hap hcc b0 b1 b2 b3 HS1 HD1 HCO
  go_upto_region 3 with fail
  generalize w3.alloc (.cells #[.slice m1 (srcM d).rules.length k1, .slice m2 cc.length k2, .slice m3 (srcM d).links.length k3, .slice m4 (srcM d).shifts.length k4] 27) = w4 at *
  generalize w3.heap.size = gc at *
  have HF4 := Lib.hid (HAF.out w4 HS4.out.bel)
  have a0 := HF4.out.a.cell_ (i := 0) rfl
  have a1 := HF4.out.a.cell_ (i := 1) rfl
  have a2 := HF4.out.a.cell_ (i := 2) rfl
  have a3 := HF4.out.a.cell_ (i := 3) rfl
  have b0 := HS4.out.sb.out.cell_ (i := 0) rfl
  have b1 := HS4.out.sb.out.cell_ (i := 1) rfl
  have b2 := HS4.out.sb.out.cell_ (i := 2) rfl
  have b3 := HS4.out.sb.out.cell_ (i := 3) rfl
  have HC4 := Lib.hid (same_src HF4.out.av (HSV.out w4 HS4.out) HLN.out HLN.out)
  rw [decide_eq_true rfl] at HC4
  go_wp2_with fail
  refine HC4.out.mono ?_
  rintro e w5 ⟨rfl, hb⟩
  have HS5 := Lib.hid (HS4.out.below hb)
  clear hb a0 a1 a2 a3 b0 b1 b2 b3 HF4 HC4 HS4
  have HF5 := Lib.hid (HAF.out w5 HS5.out.bel)
  have a0 := HF5.out.a.cell_ (i := 0) rfl
  have a1 := HF5.out.a.cell_ (i := 1) rfl
  have a2 := HF5.out.a.cell_ (i := 2) rfl
  have a3 := HF5.out.a.cell_ (i := 3) rfl
  have b0 := HS5.out.sb.out.cell_ (i := 0) rfl
  have b1 := HS5.out.sb.out.cell_ (i := 1) rfl
  have b2 := HS5.out.sb.out.cell_ (i := 2) rfl
  have b3 := HS5.out.sb.out.cell_ (i := 3) rfl
  have HC5 := Lib.hid (r14same_s HF5.out.av (HSV.out w5 HS5.out) HLN.out HLN.out)
  rw [decide_eq_true rfl] at HC5
  go_wp2_with fail
  refine HC5.out.mono ?_
  rintro e w6 ⟨rfl, hb⟩
  have HS6 := Lib.hid (HS5.out.below hb)
  clear hb a0 a1 a2 a3 b0 b1 b2 b3 HF5 HC5 HS5
  have htm : (n : Int).tmod 8 = (n : Int) % 8 := Int.tmod_eq_emod_of_nonneg (by omega)
  go_upto_block 0 with fail
  go_cut [] (fun wx => ApartS wA gc (srcM d) wx)
  case first =>
    rcases (by omega : n % 8 = 0 ∨ n % 8 = 1 ∨ n % 8 = 2 ∨ n % 8 = 3 ∨ n % 8 = 4 ∨ n % 8 = 5 ∨ n % 8 = 6 ∨ n % 8 = 7) with hvv | hvv | hvv | hvv | hvv | hvv | hvv | hvv
    · have e0 : ((n : Int) % 8 == 0) = true := by rw [beq_iff_eq]; omega
      clear hvv
      have s0 := HS6.out.sb.out.cell_ (i := 0) rfl
      have hsz := HS6.out.bel.size
      have kz := srcM_small d
      have kcu : cc.length ≤ 6 := by have h := kz.2.1; rw [← HCC.out, List.length_map] at h; exact h
      have HO := Lib.hid (show w6.ownsRow wA.heap.size 47 11 (.slice m1 (srcM d).rules.length k1) (srcM d).rules.length (flatC RuleP.cells (srcM d).rules) from HS6.out.sb.rule)
      have hnn : (srcM d).rules.length ≤ 12 := by omega
      clear kz kcu
      go_wp2_with (first | (at_builtin; refine wpList_append_any _ rfl (.tmp 47) (.tmp 49) 22 rfl wA.heap.size 47 irule zrule 11 irule.bytes Tryz.underlying22 hirule hzrule hszrule rfl hzcrule (by decide) _ _ _ rfl (HO.out.alloc _) (w6.heap.size + 1) (some ⟨w6.heap.size, 0, none⟩) 1 1 [.string ⟨#[]⟩, .int .i64 0, .int .i64 0, .int .i64 0, .int .i64 0, .int .i64 0, .int .i64 0, .int .i64 0, .int .i64 0, .int .i64 0, .string ⟨#[]⟩] rfl ?c0 ?c1 ?c2 ?c3 ?c4 ?_) | fail)
      case c0 => exact ⟨rfl, fun _ => ⟨_, rfl, by simp, fun j u hu => by rw [Addr.add_lit, Nat.zero_add]; exact (show Blk (w6.alloc (.cells #[.string ⟨#[]⟩, .int .i64 0, .int .i64 0, .int .i64 0, .int .i64 0, .int .i64 0, .int .i64 0, .int .i64 0, .int .i64 0, .int .i64 0, .string ⟨#[]⟩] 47)) w6.heap.size 47 #[.string ⟨#[]⟩, .int .i64 0, .int .i64 0, .int .i64 0, .int .i64 0, .int .i64 0, .int .i64 0, .int .i64 0, .int .i64 0, .int .i64 0, .string ⟨#[]⟩] from Blk.new' _ _ _ (by simp)).cell_ (by simpa using hu)⟩⟩
      case c1 => intro u hu; simp only [List.mem_cons, List.not_mem_nil, or_false] at hu; rcases hu with rfl | rfl | rfl | rfl | rfl | rfl | rfl | rfl | rfl | rfl | rfl <;> rfl
      case c2 => unfold maxLen; omega
      case c3 =>
        have : ((srcM d).rules.length + 1) * irule.bytes ≤ 13 * 1000 := Nat.mul_le_mul (by omega) hbyrule
        omega
      case c4 => simp; omega
      intro v9 wb hown hgrow _
      have ha : Below w6.heap.size w6 (w6.alloc (.cells #[.string ⟨#[]⟩, .int .i64 0, .int .i64 0, .int .i64 0, .int .i64 0, .int .i64 0, .int .i64 0, .int .i64 0, .int .i64 0, .int .i64 0, .string ⟨#[]⟩] 47)) := (Below.refl _ _).alloc (Nat.le_refl _) _
      have hS := HS6.out.sb.below ha
      have hb9 := blk_grown hS.out hgrow hS.rule (by decide)
      have s0 := hb9.cell_ (i := 0) rfl
      have f0 := hb9.frozen 0
      have hbel : Below wA.heap.size wA wb := (HS6.out.bel.trans (ha.mono HS6.out.bel.size)).grown hgrow (by simp; omega) (own_base hS.rule)
      have hP := hS.prule hgrow (x := RuleP.none) (u := v9) (by show World.ownsRow _ _ _ _ _ _ _; rw [List.length_append, flatC_snoc]; exact hown)
      obtain ⟨q9, d9, rfl⟩ := own_form hown
      have HP := Lib.hid (And.intro hP hbel)
      clear hown hgrow ha hS hb9 hbel hP HO
      go_wp2_with fail
      go_meet
      have hcu := HCC.out
      have hs := HP.out.1.src
      exact ⟨_, _, _, _, _, _, HP.out.1.out, by rw [hcu] at hs; exact hs, HP.out.2.setCell HS6.out.gsl _, apart_rule d _⟩
    · have e0 : ((n : Int) % 8 == 0) = false := by rw [beq_eq_false_iff_ne]; omega
      have e1 : ((n : Int) % 8 == 1) = true := by rw [beq_iff_eq]; omega
      clear hvv
      have s2 := HS6.out.sb.out.cell_ (i := 2) rfl
      have hsz := HS6.out.bel.size
      have kz := srcM_small d
      have kcu : cc.length ≤ 6 := by have h := kz.2.1; rw [← HCC.out, List.length_map] at h; exact h
      have HO := Lib.hid (show w6.ownsRow wA.heap.size 58 2 (.slice m3 (srcM d).links.length k3) (srcM d).links.length (flatC LinkP.cells (srcM d).links) from HS6.out.sb.link)
      have hnn : (srcM d).links.length ≤ 12 := by omega
      clear kz kcu
      go_wp2_with (first | (at_builtin; refine wpList_append_any _ rfl (.tmp 55) (.tmp 57) 24 rfl wA.heap.size 58 ilink zlink 2 ilink.bytes Tryz.underlying24 hilink hzlink hszlink rfl hzclink (by decide) _ _ _ rfl (HO.out.alloc _) (w6.heap.size + 1) (some ⟨w6.heap.size, 0, none⟩) 1 1 [.string ⟨#[]⟩, .string ⟨#[]⟩] rfl ?c0 ?c1 ?c2 ?c3 ?c4 ?_) | fail)
      case c0 => exact ⟨rfl, fun _ => ⟨_, rfl, by simp, fun j u hu => by rw [Addr.add_lit, Nat.zero_add]; exact (show Blk (w6.alloc (.cells #[.string ⟨#[]⟩, .string ⟨#[]⟩] 58)) w6.heap.size 58 #[.string ⟨#[]⟩, .string ⟨#[]⟩] from Blk.new' _ _ _ (by simp)).cell_ (by simpa using hu)⟩⟩
      case c1 => intro u hu; simp only [List.mem_cons, List.not_mem_nil, or_false] at hu; rcases hu with rfl | rfl <;> rfl
      case c2 => unfold maxLen; omega
      case c3 =>
        have : ((srcM d).links.length + 1) * ilink.bytes ≤ 13 * 1000 := Nat.mul_le_mul (by omega) hbylink
        omega
      case c4 => simp; omega
      intro v9 wb hown hgrow _
      have ha : Below w6.heap.size w6 (w6.alloc (.cells #[.string ⟨#[]⟩, .string ⟨#[]⟩] 58)) := (Below.refl _ _).alloc (Nat.le_refl _) _
      have hS := HS6.out.sb.below ha
      have hb9 := blk_grown hS.out hgrow hS.link (by decide)
      have s2 := hb9.cell_ (i := 2) rfl
      have f2 := hb9.frozen 2
      have hbel : Below wA.heap.size wA wb := (HS6.out.bel.trans (ha.mono HS6.out.bel.size)).grown hgrow (by simp; omega) (own_base hS.link)
      have hP := hS.plink hgrow (x := ⟨[], []⟩) (u := v9) (by show World.ownsRow _ _ _ _ _ _ _; rw [List.length_append, flatC_snoc]; exact hown)
      obtain ⟨q9, d9, rfl⟩ := own_form hown
      have HP := Lib.hid (And.intro hP hbel)
      clear hown hgrow ha hS hb9 hbel hP HO
      go_wp2_with fail
      go_meet
      have hcu := HCC.out
      have hs := HP.out.1.src
      exact ⟨_, _, _, _, _, _, HP.out.1.out, by rw [hcu] at hs; exact hs, HP.out.2.setCell HS6.out.gsl _, apart_link d _⟩
    · have e0 : ((n : Int) % 8 == 0) = false := by rw [beq_eq_false_iff_ne]; omega
      have e1 : ((n : Int) % 8 == 1) = false := by rw [beq_eq_false_iff_ne]; omega
      have e2 : ((n : Int) % 8 == 2) = true := by rw [beq_iff_eq]; omega
      clear hvv
      have s3 := HS6.out.sb.out.cell_ (i := 3) rfl
      have hsz := HS6.out.bel.size
      have kz := srcM_small d
      have kcu : cc.length ≤ 6 := by have h := kz.2.1; rw [← HCC.out, List.length_map] at h; exact h
      have HO := Lib.hid (show w6.ownsRow wA.heap.size 9 1 (.slice m4 (srcM d).shifts.length k4) (srcM d).shifts.length (flatC encS (srcM d).shifts) from HS6.out.sb.str)
      have hnn : (srcM d).shifts.length ≤ 12 := by omega
      clear kz kcu
      go_wp2_with (first | (at_builtin; refine wpList_append_any _ rfl (.tmp 63) (.tmp 64) 25 rfl wA.heap.size 9 istr zstr 1 istr.bytes Tryz.underlying25 histr hzstr hszstr rfl hzcstr (by decide) _ _ _ rfl (HO.out.alloc _) (w6.heap.size + 1) (some ⟨w6.heap.size, 0, none⟩) 1 1 [.string ⟨#[]⟩] rfl ?c0 ?c1 ?c2 ?c3 ?c4 ?_) | fail)
      case c0 => exact ⟨rfl, fun _ => ⟨_, rfl, by simp, fun j u hu => by rw [Addr.add_lit, Nat.zero_add]; exact (show Blk (w6.alloc (.cells #[.string ⟨#[]⟩] 9)) w6.heap.size 9 #[.string ⟨#[]⟩] from Blk.new' _ _ _ (by simp)).cell_ (by simpa using hu)⟩⟩
      case c1 => intro u hu; simp only [List.mem_cons, List.not_mem_nil, or_false] at hu; rcases hu with rfl <;> rfl
      case c2 => unfold maxLen; omega
      case c3 =>
        have : ((srcM d).shifts.length + 1) * istr.bytes ≤ 13 * 1000 := Nat.mul_le_mul (by omega) hbystr
        omega
      case c4 => simp; omega
      intro v9 wb hown hgrow _
      have ha : Below w6.heap.size w6 (w6.alloc (.cells #[.string ⟨#[]⟩] 9)) := (Below.refl _ _).alloc (Nat.le_refl _) _
      have hS := HS6.out.sb.below ha
      have hb9 := blk_grown hS.out hgrow hS.str (by decide)
      have s3 := hb9.cell_ (i := 3) rfl
      have f3 := hb9.frozen 3
      have hbel : Below wA.heap.size wA wb := (HS6.out.bel.trans (ha.mono HS6.out.bel.size)).grown hgrow (by simp; omega) (own_base hS.str)
      have hP := hS.pstr hgrow (x := []) (u := v9) (by show World.ownsRow _ _ _ _ _ _ _; rw [List.length_append, flatC_snoc]; exact hown)
      obtain ⟨q9, d9, rfl⟩ := own_form hown
      have HP := Lib.hid (And.intro hP hbel)
      clear hown hgrow ha hS hb9 hbel hP HO
      go_wp2_with fail
      go_meet
      have hcu := HCC.out
      have hs := HP.out.1.src
      exact ⟨_, _, _, _, _, _, HP.out.1.out, by rw [hcu] at hs; exact hs, HP.out.2.setCell HS6.out.gsl _, apart_shift d _⟩
    · have e0 : ((n : Int) % 8 == 0) = false := by rw [beq_eq_false_iff_ne]; omega
      have e1 : ((n : Int) % 8 == 1) = false := by rw [beq_eq_false_iff_ne]; omega
      have e2 : ((n : Int) % 8 == 2) = false := by rw [beq_eq_false_iff_ne]; omega
      have e3 : ((n : Int) % 8 == 3) = true := by rw [beq_iff_eq]; omega
      clear hvv
      have s1 := HS6.out.sb.out.cell_ (i := 1) rfl
      have hsz := HS6.out.bel.size
      have kz := srcM_small d
      have kcu : cc.length ≤ 6 := by have h := kz.2.1; rw [← HCC.out, List.length_map] at h; exact h
      have HO := Lib.hid (show w6.ownsRow wA.heap.size 50 2 (.slice m2 cc.length k2) cc.length (flatC encZV cc) from HS6.out.sb.zone)
      have hnn : cc.length ≤ 12 := by omega
      clear kz kcu
      go_wp2_with (first | (at_builtin; refine wpList_append_any _ rfl (.tmp 70) (.tmp 72) 23 rfl wA.heap.size 50 izone zzone 2 izone.bytes Tryz.underlying23 hizone hzzone hszzone rfl hzczone (by decide) _ _ _ rfl (HO.out.alloc _) (w6.heap.size + 1) (some ⟨w6.heap.size, 0, none⟩) 1 1 [.string ⟨#[]⟩, .slice none 0 0] rfl ?c0 ?c1 ?c2 ?c3 ?c4 ?_) | fail)
      case c0 => exact ⟨rfl, fun _ => ⟨_, rfl, by simp, fun j u hu => by rw [Addr.add_lit, Nat.zero_add]; exact (show Blk (w6.alloc (.cells #[.string ⟨#[]⟩, .slice none 0 0] 50)) w6.heap.size 50 #[.string ⟨#[]⟩, .slice none 0 0] from Blk.new' _ _ _ (by simp)).cell_ (by simpa using hu)⟩⟩
      case c1 => intro u hu; simp only [List.mem_cons, List.not_mem_nil, or_false] at hu; rcases hu with rfl | rfl <;> rfl
      case c2 => unfold maxLen; omega
      case c3 =>
        have : (cc.length + 1) * izone.bytes ≤ 13 * 1000 := Nat.mul_le_mul (by omega) hbyzone
        omega
      case c4 => simp; omega
      intro v9 wb hown hgrow _
      have ha : Below w6.heap.size w6 (w6.alloc (.cells #[.string ⟨#[]⟩, .slice none 0 0] 50)) := (Below.refl _ _).alloc (Nat.le_refl _) _
      have hS := HS6.out.sb.below ha
      have hb9 := blk_grown hS.out hgrow hS.zone (by decide)
      have s1 := hb9.cell_ (i := 1) rfl
      have f1 := hb9.frozen 1
      have hbel : Below wA.heap.size wA wb := (HS6.out.bel.trans (ha.mono HS6.out.bel.size)).grown hgrow (by simp; omega) (own_base hS.zone)
      have hP := hS.pzone hgrow (x := ⟨(⟨[], []⟩, .slice none 0 0), none, 0, rfl⟩) (u := v9) (by show World.ownsRow _ _ _ _ _ _ _; rw [List.length_append, flatC_snoc]; exact hown) (World.ownsRow_nil ..)
      obtain ⟨q9, d9, rfl⟩ := own_form hown
      have HP := Lib.hid (And.intro hP hbel)
      clear hown hgrow ha hS hb9 hbel hP HO
      go_wp2_with fail
      go_meet
      have hcu := HCC.out
      have hs := HP.out.1.src
      exact ⟨_, _, _, _, _, _, HP.out.1.out, by rw [show (cc ++ [(⟨(⟨[], []⟩, .slice none 0 0), none, 0, rfl⟩ : ZV)]).map (fun q => q.1.1) = (srcM d).zones ++ [⟨[], []⟩] from by rw [List.map_append, hcu]; rfl] at hs; exact hs, HP.out.2.setCell HS6.out.gsl _, apart_zone d _ (by decide)⟩
    · have e0 : ((n : Int) % 8 == 0) = false := by rw [beq_eq_false_iff_ne]; omega
      have e1 : ((n : Int) % 8 == 1) = false := by rw [beq_eq_false_iff_ne]; omega
      have e2 : ((n : Int) % 8 == 2) = false := by rw [beq_eq_false_iff_ne]; omega
      have e3 : ((n : Int) % 8 == 3) = false := by rw [beq_eq_false_iff_ne]; omega
      have e4 : ((n : Int) % 8 == 4) = true := by rw [beq_iff_eq]; omega
      clear hvv
      clear hbyrule hzcrule hszrule hzrule hirule zrule irule hbyzone hzczone hszzone hzzone hizone zzone izone hbylink hzclink hszlink hzlink hilink zlink ilink hbystr hzcstr hszstr hzstr histr zstr istr
      have s0 := HS6.out.sb.out.cell_ (i := 0) rfl
      have kz := srcM_small d
      have kcu : cc.length ≤ 6 := by have h := kz.2.1; rw [← HCC.out, List.length_map] at h; exact h
      have hnn : (srcM d).rules.length ≤ 12 := by omega
      clear kz kcu
      by_cases h0 : (srcM d).rules.length = 0
      · have hz : (((srcM d).rules.length : Int) == 0) = true := by rw [h0]; rfl
        go_wp2_with fail
        refine (pworks_any _ (HTT.out _ (HAF.out w6 HS6.out.bel).bel).1 (HTT.out _ (HAF.out w6 HS6.out.bel).bel).2).mono ?_
        rintro e w7 ⟨rfl, hb⟩
        have HB7 := Lib.hid ((HAF.out w6 HS6.out.bel).bel.trans (hb.mono (HAF.out w6 HS6.out.bel).bel.size))
        clear hb
        go_wp2_with fail
        go_ret
        exact ⟨rfl, HB7.out⟩
      · have hz : (((srcM d).rules.length : Int) == 0) = false := by rw [beq_eq_false_iff_ne]; omega
        obtain ⟨k, hk⟩ : ∃ k, (n / 8) % (srcM d).rules.length = k := ⟨_, rfl⟩
        have hkl : k < (srcM d).rules.length := by rw [← hk]; exact Nat.mod_lt _ (by omega)
        have hq : (n : Int).tdiv 8 = (n : Int) / 8 := Int.tdiv_eq_ediv_of_nonneg (by omega)
        have hwq : IntKind.u8.wrap ((n : Int) / 8) = (n : Int) / 8 := IntWalk.u8_in _ (by omega)
        have hw3 : IntKind.i64.wrap ((n : Int) / 8) = (n : Int) / 8 := IntWalk.i64_in _ (by omega)
        have hrm : ((n : Int) / 8).tmod ((srcM d).rules.length : Int) = (k : Int) := by rw [Int.tmod_eq_emod_of_nonneg (by omega), ← hk]; exact (Int.natCast_emod _ _).symm
        have hnl : ¬ (srcM d).rules = [] := fun h => h0 (by rw [h]; rfl)
        have hwk : IntKind.i64.wrap (k : Int) = (k : Int) := IntWalk.i64_in _ (by omega)
        have k0 : (0 : Int) ≤ (k : Int) := by omega
        have kl : (k : Int) < ((srcM d).rules.length : Int) := by omega
        obtain ⟨x, hx⟩ : ∃ x, (srcM d).rules[k]? = some x := ⟨_, List.getElem?_eq_getElem hkl⟩
        have HX := Lib.hid hx
        obtain ⟨b, cap, hv9, hgB, hgl⟩ := World.ownsRow.form HS6.out.sb.rule (by omega)
        injection hv9 with hv9 _ hv8
        subst hv9 hv8
        have HgB := Lib.hid hgB
        clear hx hk hgB hgl h0
        have hsv := rule_save d (List.mem_of_getElem? HX.out)
        have hws : IntKind.i64.wrap (x.save + 1) = x.save + 1 := IntWalk.i64_in _ (by omega)
        go_upto_region 20 with fail
        refine wp_region_rels 15 [[], [], [], [], [], [], [], [], [], [], [], [], [], [], []] [Form.val, Form.val, Form.val, Form.val, Form.val, Form.val, Form.val, Form.val, Form.val, Form.val, Form.val, Form.val, Form.val, Form.val, Form.val] (fun W => AS wA gc d cc (.slice (some ⟨b, 0, none⟩) (srcM d).rules.length k1) (.slice m2 cc.length k2) (.slice m3 (srcM d).links.length k3) (.slice m4 (srcM d).shifts.length k4) W) (by kernel_rfl) (by kernel_rfl) rfl rfl (HS6.out.below (Below.refl _ _).drew) (fun W W2 h hb => h.below hb) trivial ?_
        repeat (first | apply exSpec_rel | apply exSpec_new | apply exSpec_val)
        apply relWalk_ex rfl ?oq4_0 (fun K hK => ?nq4_0)
        case oq4_0 =>
          intro W hC hF
          have s0 := hC.sb.out.cell_ (i := 0) rfl
          have hcx : W.cell? ⟨b, k * 11 + 9, none⟩ = some (.int .i64 x.save) := (own_cell RuleP.cells (fun x => (rule_cells x).1) hC.sb.rule (j := 9) HX.out (by decide) rfl).1
          go_simp
          all_goals exact ⟨Below.refl _ _, rfl⟩
        case' nq4_0 =>
          go_simp
          refine hK _ ?_
          clear hK K
        apply relWalk_ex rfl ?oq4_1 (fun K hK => ?nq4_1)
        case oq4_1 =>
          intro W hC hF
          have s0 := hC.sb.out.cell_ (i := 0) rfl
          have hcx : W.cell? ⟨b, k * 11 + 9, none⟩ = some (.int .i64 x.save) := (own_cell RuleP.cells (fun x => (rule_cells x).1) hC.sb.rule (j := 9) HX.out (by decide) rfl).1
          go_simp
          all_goals exact ⟨Below.refl _ _, rfl⟩
        case' nq4_1 =>
          go_simp
          refine hK _ ?_
          clear hK K
        apply relWalk_ex rfl ?oq4_2 (fun K hK => ?nq4_2)
        case oq4_2 =>
          intro W hC hF
          have s0 := hC.sb.out.cell_ (i := 0) rfl
          have hcx : W.cell? ⟨b, k * 11 + 9, none⟩ = some (.int .i64 x.save) := (own_cell RuleP.cells (fun x => (rule_cells x).1) hC.sb.rule (j := 9) HX.out (by decide) rfl).1
          go_simp
          all_goals exact ⟨Below.refl _ _, rfl⟩
        case' nq4_2 =>
          go_simp
          refine hK _ ?_
          clear hK K
        apply relWalk_ex rfl ?oq4_3 (fun K hK => ?nq4_3)
        case oq4_3 =>
          intro W hC hF
          have s0 := hC.sb.out.cell_ (i := 0) rfl
          have hcx : W.cell? ⟨b, k * 11 + 9, none⟩ = some (.int .i64 x.save) := (own_cell RuleP.cells (fun x => (rule_cells x).1) hC.sb.rule (j := 9) HX.out (by decide) rfl).1
          go_simp
          all_goals exact ⟨Below.refl _ _, rfl⟩
        case' nq4_3 =>
          go_simp
          refine hK _ ?_
          clear hK K
        apply relWalk_ex rfl ?oq4_4 (fun K hK => ?nq4_4)
        case oq4_4 =>
          intro W hC hF
          have s0 := hC.sb.out.cell_ (i := 0) rfl
          have hcx : W.cell? ⟨b, k * 11 + 9, none⟩ = some (.int .i64 x.save) := (own_cell RuleP.cells (fun x => (rule_cells x).1) hC.sb.rule (j := 9) HX.out (by decide) rfl).1
          go_simp
          all_goals exact ⟨Below.refl _ _, rfl⟩
        case' nq4_4 =>
          go_simp
          refine hK _ ?_
          clear hK K
        apply relWalk_ex rfl ?oq4_5 (fun K hK => ?nq4_5)
        case oq4_5 =>
          intro W hC hF
          have s0 := hC.sb.out.cell_ (i := 0) rfl
          have hcx : W.cell? ⟨b, k * 11 + 9, none⟩ = some (.int .i64 x.save) := (own_cell RuleP.cells (fun x => (rule_cells x).1) hC.sb.rule (j := 9) HX.out (by decide) rfl).1
          go_simp
          all_goals exact ⟨Below.refl _ _, rfl⟩
        case' nq4_5 =>
          go_simp
          refine hK _ ?_
          clear hK K
        apply relWalk_ex rfl ?oq4_6 (fun K hK => ?nq4_6)
        case oq4_6 =>
          intro W hC hF
          have s0 := hC.sb.out.cell_ (i := 0) rfl
          have hcx : W.cell? ⟨b, k * 11 + 9, none⟩ = some (.int .i64 x.save) := (own_cell RuleP.cells (fun x => (rule_cells x).1) hC.sb.rule (j := 9) HX.out (by decide) rfl).1
          go_simp
          all_goals exact ⟨Below.refl _ _, rfl⟩
        case' nq4_6 =>
          go_simp
          refine hK _ ?_
          clear hK K
        apply relWalk_ex rfl ?oq4_7 (fun K hK => ?nq4_7)
        case oq4_7 =>
          intro W hC hF
          have s0 := hC.sb.out.cell_ (i := 0) rfl
          have hcx : W.cell? ⟨b, k * 11 + 9, none⟩ = some (.int .i64 x.save) := (own_cell RuleP.cells (fun x => (rule_cells x).1) hC.sb.rule (j := 9) HX.out (by decide) rfl).1
          go_simp
          all_goals exact ⟨Below.refl _ _, rfl⟩
        case' nq4_7 =>
          go_simp
          refine hK _ ?_
          clear hK K
        apply relWalk_ex rfl ?oq4_8 (fun K hK => ?nq4_8)
        case oq4_8 =>
          intro W hC hF
          have s0 := hC.sb.out.cell_ (i := 0) rfl
          have hcx : W.cell? ⟨b, k * 11 + 9, none⟩ = some (.int .i64 x.save) := (own_cell RuleP.cells (fun x => (rule_cells x).1) hC.sb.rule (j := 9) HX.out (by decide) rfl).1
          go_simp
          all_goals exact ⟨Below.refl _ _, rfl⟩
        case' nq4_8 =>
          go_simp
          refine hK _ ?_
          clear hK K
        apply relWalk_ex rfl ?oq4_9 (fun K hK => ?nq4_9)
        case oq4_9 =>
          intro W hC hF
          have s0 := hC.sb.out.cell_ (i := 0) rfl
          have hcx : W.cell? ⟨b, k * 11 + 9, none⟩ = some (.int .i64 x.save) := (own_cell RuleP.cells (fun x => (rule_cells x).1) hC.sb.rule (j := 9) HX.out (by decide) rfl).1
          go_simp
          all_goals exact ⟨Below.refl _ _, rfl⟩
        case' nq4_9 =>
          go_simp
          refine hK _ ?_
          clear hK K
        apply relWalk_ex rfl ?oq4_10 (fun K hK => ?nq4_10)
        case oq4_10 =>
          intro W hC hF
          have s0 := hC.sb.out.cell_ (i := 0) rfl
          have hcx : W.cell? ⟨b, k * 11 + 9, none⟩ = some (.int .i64 x.save) := (own_cell RuleP.cells (fun x => (rule_cells x).1) hC.sb.rule (j := 9) HX.out (by decide) rfl).1
          go_simp
          all_goals exact ⟨Below.refl _ _, rfl⟩
        case' nq4_10 =>
          go_simp
          refine hK _ ?_
          clear hK K
        apply relWalk_ex rfl ?oq4_11 (fun K hK => ?nq4_11)
        case oq4_11 =>
          intro W hC hF
          have s0 := hC.sb.out.cell_ (i := 0) rfl
          have hcx : W.cell? ⟨b, k * 11 + 9, none⟩ = some (.int .i64 x.save) := (own_cell RuleP.cells (fun x => (rule_cells x).1) hC.sb.rule (j := 9) HX.out (by decide) rfl).1
          go_simp
          all_goals exact ⟨Below.refl _ _, rfl⟩
        case' nq4_11 =>
          go_simp
          refine hK _ ?_
          clear hK K
        apply relWalk_ex rfl ?oq4_12 (fun K hK => ?nq4_12)
        case oq4_12 =>
          intro W hC hF
          have s0 := hC.sb.out.cell_ (i := 0) rfl
          have hcx : W.cell? ⟨b, k * 11 + 9, none⟩ = some (.int .i64 x.save) := (own_cell RuleP.cells (fun x => (rule_cells x).1) hC.sb.rule (j := 9) HX.out (by decide) rfl).1
          go_simp
          all_goals exact ⟨Below.refl _ _, rfl⟩
        case' nq4_12 =>
          go_simp
          refine hK _ ?_
          clear hK K
        apply relWalk_ex rfl ?oq4_13 (fun K hK => ?nq4_13)
        case oq4_13 =>
          intro W hC hF
          have s0 := hC.sb.out.cell_ (i := 0) rfl
          have hcx : W.cell? ⟨b, k * 11 + 9, none⟩ = some (.int .i64 x.save) := (own_cell RuleP.cells (fun x => (rule_cells x).1) hC.sb.rule (j := 9) HX.out (by decide) rfl).1
          go_simp
          all_goals exact ⟨Below.refl _ _, rfl⟩
        case' nq4_13 =>
          go_simp
          refine hK _ ?_
          clear hK K
        apply relWalk_ex rfl ?oq4_14 (fun K hK => ?nq4_14)
        case oq4_14 =>
          intro W hC hF
          have s0 := hC.sb.out.cell_ (i := 0) rfl
          have hcx : W.cell? ⟨b, k * 11 + 9, none⟩ = some (.int .i64 x.save) := (own_cell RuleP.cells (fun x => (rule_cells x).1) hC.sb.rule (j := 9) HX.out (by decide) rfl).1
          go_simp
          all_goals exact ⟨Below.refl _ _, rfl⟩
        case' nq4_14 =>
          go_simp
          refine hK _ ?_
          clear hK K
        apply relWalk_end
        intro W hC hF hU
        have HCW := Lib.hid hC
        have hcx : W.cell? ⟨b, k * 11 + 9, none⟩ = some (.int .i64 x.save) := (own_cell RuleP.cells (fun x => (rule_cells x).1) hC.sb.rule (j := 9) HX.out (by decide) rfl).1
        have fcx : W.frozen? ⟨b, k * 11 + 9, none⟩ = false := (own_cell RuleP.cells (fun x => (rule_cells x).1) hC.sb.rule (j := 9) (u := .int .i64 x.save) HX.out (by decide) rfl).2
        clear hC hF hU
        go_wp2_with fail
        go_meet
        have HP := HCW.out.sb.mrule (y := { x with save := x.save + 1 }) (u := (.int .i64 (x.save + 1))) HX.out (show 9 < 11 by decide) rfl
        have hs := HP.src
        rw [HCC.out] at hs
        exact ⟨_, _, _, _, _, _, HP.out, hs, HCW.out.bel.setCell HgB.out _, by exact apart_mrule d HX.out (fun h => by have h2 : x.save + 1 = x.save := congrArg RuleP.save h; omega)⟩
    · have e0 : ((n : Int) % 8 == 0) = false := by rw [beq_eq_false_iff_ne]; omega
      have e1 : ((n : Int) % 8 == 1) = false := by rw [beq_eq_false_iff_ne]; omega
      have e2 : ((n : Int) % 8 == 2) = false := by rw [beq_eq_false_iff_ne]; omega
      have e3 : ((n : Int) % 8 == 3) = false := by rw [beq_eq_false_iff_ne]; omega
      have e4 : ((n : Int) % 8 == 4) = false := by rw [beq_eq_false_iff_ne]; omega
      have e5 : ((n : Int) % 8 == 5) = true := by rw [beq_iff_eq]; omega
      clear hvv
      clear hbyrule hzcrule hszrule hzrule hirule zrule irule hbyzone hzczone hszzone hzzone hizone zzone izone hbylink hzclink hszlink hzlink hilink zlink ilink hbystr hzcstr hszstr hzstr histr zstr istr
      have s1 := HS6.out.sb.out.cell_ (i := 1) rfl
      have kz := srcM_small d
      have kcu : cc.length ≤ 6 := by have h := kz.2.1; rw [← HCC.out, List.length_map] at h; exact h
      have hnn : cc.length ≤ 12 := by omega
      clear kz kcu
      by_cases h0 : cc.length = 0
      · have hz : ((cc.length : Int) == 0) = true := by rw [h0]; rfl
        go_wp2_with fail
        refine (pworks_any _ (HTT.out _ (HAF.out w6 HS6.out.bel).bel).1 (HTT.out _ (HAF.out w6 HS6.out.bel).bel).2).mono ?_
        rintro e w7 ⟨rfl, hb⟩
        have HB7 := Lib.hid ((HAF.out w6 HS6.out.bel).bel.trans (hb.mono (HAF.out w6 HS6.out.bel).bel.size))
        clear hb
        go_wp2_with fail
        go_ret
        exact ⟨rfl, HB7.out⟩
      · have hz : ((cc.length : Int) == 0) = false := by rw [beq_eq_false_iff_ne]; omega
        obtain ⟨k, hk⟩ : ∃ k, (n / 8) % cc.length = k := ⟨_, rfl⟩
        have hkl : k < cc.length := by rw [← hk]; exact Nat.mod_lt _ (by omega)
        have hq : (n : Int).tdiv 8 = (n : Int) / 8 := Int.tdiv_eq_ediv_of_nonneg (by omega)
        have hwq : IntKind.u8.wrap ((n : Int) / 8) = (n : Int) / 8 := IntWalk.u8_in _ (by omega)
        have hw3 : IntKind.i64.wrap ((n : Int) / 8) = (n : Int) / 8 := IntWalk.i64_in _ (by omega)
        have hrm : ((n : Int) / 8).tmod (cc.length : Int) = (k : Int) := by rw [Int.tmod_eq_emod_of_nonneg (by omega), ← hk]; exact (Int.natCast_emod _ _).symm
        have hnl : ¬ cc = [] := fun h => h0 (by rw [h]; rfl)
        have hwk : IntKind.i64.wrap (k : Int) = (k : Int) := IntWalk.i64_in _ (by omega)
        have k0 : (0 : Int) ≤ (k : Int) := by omega
        have kl : (k : Int) < (cc.length : Int) := by omega
        obtain ⟨x, hx⟩ : ∃ x, cc[k]? = some x := ⟨_, List.getElem?_eq_getElem hkl⟩
        have HX := Lib.hid hx
        obtain ⟨b, cap, hv9, hgB, hgl⟩ := World.ownsRow.form HS6.out.sb.zone (by omega)
        injection hv9 with hv9 _ hv8
        subst hv9 hv8
        have HgB := Lib.hid hgB
        clear hx hk hgB hgl h0
        have HZ := Lib.hid (show (srcM d).zones[k]? = some x.1.1 from by rw [← HCC.out, List.getElem?_map, HX.out]; rfl)
        obtain ⟨e, hlast, hm1, hm4, hmo1, hmo2⟩ := zone_last d (List.mem_of_getElem? HZ.out)
        obtain ⟨px, cx, hpx⟩ : ∃ p c, x.1.2 = .slice p x.1.1.eras.length c := x.2
        have hrow := HS6.out.sb.eras x (List.mem_of_getElem? HX.out)
        rw [hpx] at hrow
        obtain ⟨b5, cap5, hv5, hgB5, hgl5⟩ := World.ownsRow.form hrow (by omega)
        injection hv5 with hv5 _ hv6
        subst hv5 hv6
        obtain ⟨m, hm⟩ : ∃ m, x.1.1.eras.length = m := ⟨_, rfl⟩
        rw [hm] at hpx hlast hm1 hm4
        obtain ⟨t, rfl⟩ : ∃ t, m = t + 1 := ⟨m - 1, by omega⟩
        have HLA := Lib.hid hlast
        have HPX := Lib.hid hpx
        have HG5 := Lib.hid hgB5
        have HM := Lib.hid hm
        clear hlast hrow hgB5 hgl5 hpx hm
        go_upto_region 24 with fail
        have HLL := Lib.hid (show _ ∧ w6.heap.size = w6.heap.size from ⟨HS6.out.lowOf, rfl⟩)
        obtain ⟨L, hL⟩ : ∃ L, w6.heap.size = L := ⟨_, rfl⟩
        rw [hL] at HLL
        refine wp_region_rels 12 [[], [], [], [], [], [], [], [], [], [], [], []] [Form.val, Form.val, Form.val, Form.val, Form.val, Form.val, Form.val, Form.val, Form.val, Form.val, Form.val, Form.rel (NewZ L)] (fun W => AS wA gc d cc (.slice m1 (srcM d).rules.length k1) (.slice (some ⟨b, 0, none⟩) cc.length k2) (.slice m3 (srcM d).links.length k3) (.slice m4 (srcM d).shifts.length k4) W ∧ L ≤ W.heap.size) (by kernel_rfl) (by kernel_rfl) rfl rfl (⟨HS6.out.below (Below.refl _ _).drew, Nat.le_of_eq hL.symm⟩) (fun W W2 h hb => ⟨h.1.below hb, Nat.le_trans h.2 hb.size⟩) ⟨NewZ.last _, trivial⟩ ?_
        repeat (first | apply exSpec_rel | apply exSpec_new | apply exSpec_val)
        apply relWalk_ex rfl ?oq5_0 (fun K hK => ?nq5_0)
        case oq5_0 =>
          intro W hC hF
          have s1 := hC.1.sb.out.cell_ (i := 1) rfl
          have hc0 : W.cell? ⟨b, k * 2, none⟩ = some (.string ⟨x.1.1.name.toArray⟩) := (own_cell encZV (fun x => (zone_cells x).1) hC.1.sb.zone (j := 0) HX.out (by decide) rfl).1
          have hc1 : W.cell? ⟨b, k * 2 + 1, none⟩ = some (.slice (some ⟨b5, 0, none⟩) (t + 1) cx) := by rw [← HPX.out]; exact (own_cell encZV (fun x => (zone_cells x).1) hC.1.sb.zone (j := 1) HX.out (by decide) rfl).1
          go_simp
          all_goals exact ⟨Below.refl _ _, rfl⟩
        case' nq5_0 =>
          go_simp
          refine hK _ ?_
          clear hK K
        apply relWalk_ex rfl ?oq5_1 (fun K hK => ?nq5_1)
        case oq5_1 =>
          intro W hC hF
          have s1 := hC.1.sb.out.cell_ (i := 1) rfl
          have hc0 : W.cell? ⟨b, k * 2, none⟩ = some (.string ⟨x.1.1.name.toArray⟩) := (own_cell encZV (fun x => (zone_cells x).1) hC.1.sb.zone (j := 0) HX.out (by decide) rfl).1
          have hc1 : W.cell? ⟨b, k * 2 + 1, none⟩ = some (.slice (some ⟨b5, 0, none⟩) (t + 1) cx) := by rw [← HPX.out]; exact (own_cell encZV (fun x => (zone_cells x).1) hC.1.sb.zone (j := 1) HX.out (by decide) rfl).1
          go_simp
          all_goals exact ⟨Below.refl _ _, rfl⟩
        case' nq5_1 =>
          go_simp
          refine hK _ ?_
          clear hK K
        apply relWalk_ex rfl ?oq5_2 (fun K hK => ?nq5_2)
        case oq5_2 =>
          intro W hC hF
          have s1 := hC.1.sb.out.cell_ (i := 1) rfl
          have hc0 : W.cell? ⟨b, k * 2, none⟩ = some (.string ⟨x.1.1.name.toArray⟩) := (own_cell encZV (fun x => (zone_cells x).1) hC.1.sb.zone (j := 0) HX.out (by decide) rfl).1
          have hc1 : W.cell? ⟨b, k * 2 + 1, none⟩ = some (.slice (some ⟨b5, 0, none⟩) (t + 1) cx) := by rw [← HPX.out]; exact (own_cell encZV (fun x => (zone_cells x).1) hC.1.sb.zone (j := 1) HX.out (by decide) rfl).1
          go_simp
          all_goals exact ⟨Below.refl _ _, rfl⟩
        case' nq5_2 =>
          go_simp
          refine hK _ ?_
          clear hK K
        apply relWalk_ex rfl ?oq5_3 (fun K hK => ?nq5_3)
        case oq5_3 =>
          intro W hC hF
          have s1 := hC.1.sb.out.cell_ (i := 1) rfl
          have hc0 : W.cell? ⟨b, k * 2, none⟩ = some (.string ⟨x.1.1.name.toArray⟩) := (own_cell encZV (fun x => (zone_cells x).1) hC.1.sb.zone (j := 0) HX.out (by decide) rfl).1
          have hc1 : W.cell? ⟨b, k * 2 + 1, none⟩ = some (.slice (some ⟨b5, 0, none⟩) (t + 1) cx) := by rw [← HPX.out]; exact (own_cell encZV (fun x => (zone_cells x).1) hC.1.sb.zone (j := 1) HX.out (by decide) rfl).1
          go_simp
          all_goals exact ⟨Below.refl _ _, rfl⟩
        case' nq5_3 =>
          go_simp
          refine hK _ ?_
          clear hK K
        apply relWalk_ex rfl ?oq5_4 (fun K hK => ?nq5_4)
        case oq5_4 =>
          intro W hC hF
          have s1 := hC.1.sb.out.cell_ (i := 1) rfl
          have hc0 : W.cell? ⟨b, k * 2, none⟩ = some (.string ⟨x.1.1.name.toArray⟩) := (own_cell encZV (fun x => (zone_cells x).1) hC.1.sb.zone (j := 0) HX.out (by decide) rfl).1
          have hc1 : W.cell? ⟨b, k * 2 + 1, none⟩ = some (.slice (some ⟨b5, 0, none⟩) (t + 1) cx) := by rw [← HPX.out]; exact (own_cell encZV (fun x => (zone_cells x).1) hC.1.sb.zone (j := 1) HX.out (by decide) rfl).1
          go_simp
          all_goals exact ⟨Below.refl _ _, rfl⟩
        case' nq5_4 =>
          go_simp
          refine hK _ ?_
          clear hK K
        apply relWalk_ex rfl ?oq5_5 (fun K hK => ?nq5_5)
        case oq5_5 =>
          intro W hC hF
          have s1 := hC.1.sb.out.cell_ (i := 1) rfl
          have hc0 : W.cell? ⟨b, k * 2, none⟩ = some (.string ⟨x.1.1.name.toArray⟩) := (own_cell encZV (fun x => (zone_cells x).1) hC.1.sb.zone (j := 0) HX.out (by decide) rfl).1
          have hc1 : W.cell? ⟨b, k * 2 + 1, none⟩ = some (.slice (some ⟨b5, 0, none⟩) (t + 1) cx) := by rw [← HPX.out]; exact (own_cell encZV (fun x => (zone_cells x).1) hC.1.sb.zone (j := 1) HX.out (by decide) rfl).1
          go_simp
          all_goals exact ⟨Below.refl _ _, rfl⟩
        case' nq5_5 =>
          go_simp
          refine hK _ ?_
          clear hK K
        apply relWalk_ex rfl ?oq5_6 (fun K hK => ?nq5_6)
        case oq5_6 =>
          intro W hC hF
          have s1 := hC.1.sb.out.cell_ (i := 1) rfl
          have hc0 : W.cell? ⟨b, k * 2, none⟩ = some (.string ⟨x.1.1.name.toArray⟩) := (own_cell encZV (fun x => (zone_cells x).1) hC.1.sb.zone (j := 0) HX.out (by decide) rfl).1
          have hc1 : W.cell? ⟨b, k * 2 + 1, none⟩ = some (.slice (some ⟨b5, 0, none⟩) (t + 1) cx) := by rw [← HPX.out]; exact (own_cell encZV (fun x => (zone_cells x).1) hC.1.sb.zone (j := 1) HX.out (by decide) rfl).1
          go_simp
          all_goals exact ⟨Below.refl _ _, rfl⟩
        case' nq5_6 =>
          go_simp
          refine hK _ ?_
          clear hK K
        apply relWalk_ex rfl ?oq5_7 (fun K hK => ?nq5_7)
        case oq5_7 =>
          intro W hC hF
          have s1 := hC.1.sb.out.cell_ (i := 1) rfl
          have hc0 : W.cell? ⟨b, k * 2, none⟩ = some (.string ⟨x.1.1.name.toArray⟩) := (own_cell encZV (fun x => (zone_cells x).1) hC.1.sb.zone (j := 0) HX.out (by decide) rfl).1
          have hc1 : W.cell? ⟨b, k * 2 + 1, none⟩ = some (.slice (some ⟨b5, 0, none⟩) (t + 1) cx) := by rw [← HPX.out]; exact (own_cell encZV (fun x => (zone_cells x).1) hC.1.sb.zone (j := 1) HX.out (by decide) rfl).1
          go_simp
          all_goals exact ⟨Below.refl _ _, rfl⟩
        case' nq5_7 =>
          go_simp
          refine hK _ ?_
          clear hK K
        apply relWalk_ex rfl ?oq5_8 (fun K hK => ?nq5_8)
        case oq5_8 =>
          intro W hC hF
          have s1 := hC.1.sb.out.cell_ (i := 1) rfl
          have hc0 : W.cell? ⟨b, k * 2, none⟩ = some (.string ⟨x.1.1.name.toArray⟩) := (own_cell encZV (fun x => (zone_cells x).1) hC.1.sb.zone (j := 0) HX.out (by decide) rfl).1
          have hc1 : W.cell? ⟨b, k * 2 + 1, none⟩ = some (.slice (some ⟨b5, 0, none⟩) (t + 1) cx) := by rw [← HPX.out]; exact (own_cell encZV (fun x => (zone_cells x).1) hC.1.sb.zone (j := 1) HX.out (by decide) rfl).1
          go_simp
          all_goals exact ⟨Below.refl _ _, rfl⟩
        case' nq5_8 =>
          go_simp
          refine hK _ ?_
          clear hK K
        apply relWalk_ex rfl ?oq5_9 (fun K hK => ?nq5_9)
        case oq5_9 =>
          intro W hC hF
          have s1 := hC.1.sb.out.cell_ (i := 1) rfl
          have hc0 : W.cell? ⟨b, k * 2, none⟩ = some (.string ⟨x.1.1.name.toArray⟩) := (own_cell encZV (fun x => (zone_cells x).1) hC.1.sb.zone (j := 0) HX.out (by decide) rfl).1
          have hc1 : W.cell? ⟨b, k * 2 + 1, none⟩ = some (.slice (some ⟨b5, 0, none⟩) (t + 1) cx) := by rw [← HPX.out]; exact (own_cell encZV (fun x => (zone_cells x).1) hC.1.sb.zone (j := 1) HX.out (by decide) rfl).1
          go_simp
          all_goals exact ⟨Below.refl _ _, rfl⟩
        case' nq5_9 =>
          go_simp
          refine hK _ ?_
          clear hK K
        apply relWalk_ex rfl ?oq5_10 (fun K hK => ?nq5_10)
        case oq5_10 =>
          intro W hC hF
          have s1 := hC.1.sb.out.cell_ (i := 1) rfl
          have hc0 : W.cell? ⟨b, k * 2, none⟩ = some (.string ⟨x.1.1.name.toArray⟩) := (own_cell encZV (fun x => (zone_cells x).1) hC.1.sb.zone (j := 0) HX.out (by decide) rfl).1
          have hc1 : W.cell? ⟨b, k * 2 + 1, none⟩ = some (.slice (some ⟨b5, 0, none⟩) (t + 1) cx) := by rw [← HPX.out]; exact (own_cell encZV (fun x => (zone_cells x).1) hC.1.sb.zone (j := 1) HX.out (by decide) rfl).1
          go_simp
          all_goals exact ⟨Below.refl _ _, rfl⟩
        case' nq5_10 =>
          go_simp
          refine hK _ ?_
          clear hK K
        apply relWalk_rel rfl ?oq5_11 (fun u11 K hK => ?nq5_11)
        case oq5_11 =>
          intro W hC hF
          have s1 := hC.1.sb.out.cell_ (i := 1) rfl
          have hc0 : W.cell? ⟨b, k * 2, none⟩ = some (.string ⟨x.1.1.name.toArray⟩) := (own_cell encZV (fun x => (zone_cells x).1) hC.1.sb.zone (j := 0) HX.out (by decide) rfl).1
          have hc1 : W.cell? ⟨b, k * 2 + 1, none⟩ = some (.slice (some ⟨b5, 0, none⟩) (t + 1) cx) := by rw [← HPX.out]; exact (own_cell encZV (fun x => (zone_cells x).1) hC.1.sb.zone (j := 1) HX.out (by decide) rfl).1
          go_simp
          all_goals exact ⟨(Below.refl _ _).alloc (Nat.le_refl _) _, _, rfl, Blk.new' _ _ _ rfl, hC.2⟩
        case' nq5_11 =>
          go_simp
          refine hK _ ?_
          clear hK K
        apply relWalk_end
        intro W hC hF hU
        obtain ⟨⟨gz, rfl, hz1, hz2⟩, -⟩ := hF
        have HCW := Lib.hid hC.1
        have HZ1 := Lib.hid hz1
        have HZ2 := Lib.hid hz2
        have zc0 := hz1.cell_ (i := 0) rfl
        have zc1 := hz1.cell_ (i := 1) rfl
        have zf0 := hz1.frozen 0
        have zf1 := hz1.frozen 1
        clear hC hU hz1 hz2 hL
        go_upto_region 25 with fail
        have HS7 := Lib.hid (show AS wA gc d cc (.slice m1 (srcM d).rules.length k1) (.slice (some ⟨b, 0, none⟩) cc.length k2) (.slice m3 (srcM d).links.length k3) (.slice m4 (srcM d).shifts.length k4) ((W.setCell ⟨gz, 0, none⟩ (.string ⟨x.1.1.name.toArray⟩)).setCell ⟨gz, 1, none⟩ (.slice (some ⟨b5, 0, none⟩) (t + 1) cx)) ∧ Blk ((W.setCell ⟨gz, 0, none⟩ (.string ⟨x.1.1.name.toArray⟩)).setCell ⟨gz, 1, none⟩ (.slice (some ⟨b5, 0, none⟩) (t + 1) cx)) gz 50 #[.string ⟨x.1.1.name.toArray⟩, .slice (some ⟨b5, 0, none⟩) (t + 1) cx] from ⟨(HCW.out.farL HLL.out.1 HZ2.out _).farL HLL.out.1 HZ2.out _, (HZ1.out.set_ 0 _).set_ 1 _⟩)
        clear HCW zc0 zc1 zf0 zf1 HZ1
        generalize ((W.setCell ⟨gz, 0, none⟩ (.string ⟨x.1.1.name.toArray⟩)).setCell ⟨gz, 1, none⟩ (.slice (some ⟨b5, 0, none⟩) (t + 1) cx)) = w7 at *
        have z1 := HS7.out.2.cell_ (i := 1) rfl
        have hro : w7.ownsRow wA.heap.size 55 13 (.slice (some ⟨b5, 0, none⟩) (t + 1) cx) (t + 1) (flatC EraP.cells x.1.1.eras) := by have h := HS7.out.1.sb.eras x (List.mem_of_getElem? HX.out); rw [HPX.out, ← HM.out] at h; rw [← HM.out]; exact h
        have hce : w7.cell? ⟨b5, t * 13 + 7, none⟩ = some (.int .i64 e.til.mon) := (own_cell EraP.cells (fun x => (eraOk_cells x).1) hro (k := t) (j := 7) (x := e) (by have := HLA.out; rwa [Nat.add_sub_cancel] at this) (by decide) rfl).1
        have fce : w7.frozen? ⟨b5, t * 13 + 7, none⟩ = false := (own_cell EraP.cells (fun x => (eraOk_cells x).1) hro (k := t) (j := 7) (x := e) (u := .int .i64 e.til.mon) (by have := HLA.out; rwa [Nat.add_sub_cancel] at this) (by decide) rfl).2
        clear hro
        have ht1 : (((t + 1 : Nat) : Int)) - 1 = (t : Int) := by omega
        have hwt : IntKind.i64.wrap (t : Int) = (t : Int) := IntWalk.i64_in _ (by omega)
        have t0 : (0 : Int) ≤ (t : Int) := by omega
        have tl : (t : Int) < ((t + 1 : Nat) : Int) := by omega
        have htt : (t : Int).toNat = t := by omega
        have hwm : IntKind.i64.wrap (e.til.mon + 1) = e.til.mon + 1 := IntWalk.i64_in _ (by omega)
        go_wp2_with fail
        go_meet
        have HL2 : x.1.1.eras[t]? = some e := by have := HLA.out; rwa [Nat.add_sub_cancel] at this
        have HP := HS7.out.1.sb.mera HS7.out.1.ap (u := .int .i64 (e.til.mon + 1)) (y := ⟨(⟨x.1.1.name, x.1.1.eras.set t { e with til := { e.til with mon := e.til.mon + 1 } }⟩, x.1.2), by rw [HPX.out]; exact ⟨_, _, by rw [List.length_set, HM.out]⟩⟩) (e' := { e with til := { e.til with mon := e.til.mon + 1 } }) (b := b5) (c := cx) HX.out (by rw [HPX.out, HM.out]) rfl rfl HL2 (show 7 < 13 by decide) rfl rfl
        have hs := HP.src
        rw [show (cc.set k ⟨(⟨x.1.1.name, x.1.1.eras.set t { e with til := { e.til with mon := e.til.mon + 1 } }⟩, x.1.2), by rw [HPX.out]; exact ⟨_, _, by rw [List.length_set, HM.out]⟩⟩).map (fun q => q.1.1) = (srcM d).zones.set k ⟨x.1.1.name, x.1.1.eras.set t { e with til := { e.til with mon := e.til.mon + 1 } }⟩ from by rw [List.map_set, HCC.out]] at hs
        exact ⟨_, _, _, _, _, _, HP.out, hs, HS7.out.1.bel.setCell HG5.out _, by exact apart_mzone d (x := x.1.1) (y := ⟨x.1.1.name, x.1.1.eras.set t { e with til := { e.til with mon := e.til.mon + 1 } }⟩) HZ.out (fun h => set_ne HL2 (fun h => by have h2 : e.til.mon + 1 = e.til.mon := congrArg (fun l => l.til.mon) h; omega) (congrArg ZoneP.eras h)) (by rw [List.length_set])⟩
    · have e0 : ((n : Int) % 8 == 0) = false := by rw [beq_eq_false_iff_ne]; omega
      have e1 : ((n : Int) % 8 == 1) = false := by rw [beq_eq_false_iff_ne]; omega
      have e2 : ((n : Int) % 8 == 2) = false := by rw [beq_eq_false_iff_ne]; omega
      have e3 : ((n : Int) % 8 == 3) = false := by rw [beq_eq_false_iff_ne]; omega
      have e4 : ((n : Int) % 8 == 4) = false := by rw [beq_eq_false_iff_ne]; omega
      have e5 : ((n : Int) % 8 == 5) = false := by rw [beq_eq_false_iff_ne]; omega
      have e6 : ((n : Int) % 8 == 6) = true := by rw [beq_iff_eq]; omega
      clear hvv
      clear hbyrule hzcrule hszrule hzrule hirule zrule irule hbyzone hzczone hszzone hzzone hizone zzone izone hbylink hzclink hszlink hzlink hilink zlink ilink hbystr hzcstr hszstr hzstr histr zstr istr
      have s1 := HS6.out.sb.out.cell_ (i := 1) rfl
      have kz := srcM_small d
      have kcu : cc.length ≤ 6 := by have h := kz.2.1; rw [← HCC.out, List.length_map] at h; exact h
      have hnn : cc.length ≤ 12 := by omega
      clear kz kcu
      by_cases h0 : cc.length = 0
      · have hz : ((cc.length : Int) == 0) = true := by rw [h0]; rfl
        go_wp2_with fail
        refine (pworks_any _ (HTT.out _ (HAF.out w6 HS6.out.bel).bel).1 (HTT.out _ (HAF.out w6 HS6.out.bel).bel).2).mono ?_
        rintro e w7 ⟨rfl, hb⟩
        have HB7 := Lib.hid ((HAF.out w6 HS6.out.bel).bel.trans (hb.mono (HAF.out w6 HS6.out.bel).bel.size))
        clear hb
        go_wp2_with fail
        go_ret
        exact ⟨rfl, HB7.out⟩
      · have hz : ((cc.length : Int) == 0) = false := by rw [beq_eq_false_iff_ne]; omega
        obtain ⟨k, hk⟩ : ∃ k, (n / 8) % cc.length = k := ⟨_, rfl⟩
        have hkl : k < cc.length := by rw [← hk]; exact Nat.mod_lt _ (by omega)
        have hq : (n : Int).tdiv 8 = (n : Int) / 8 := Int.tdiv_eq_ediv_of_nonneg (by omega)
        have hwq : IntKind.u8.wrap ((n : Int) / 8) = (n : Int) / 8 := IntWalk.u8_in _ (by omega)
        have hw3 : IntKind.i64.wrap ((n : Int) / 8) = (n : Int) / 8 := IntWalk.i64_in _ (by omega)
        have hrm : ((n : Int) / 8).tmod (cc.length : Int) = (k : Int) := by rw [Int.tmod_eq_emod_of_nonneg (by omega), ← hk]; exact (Int.natCast_emod _ _).symm
        have hnl : ¬ cc = [] := fun h => h0 (by rw [h]; rfl)
        have hwk : IntKind.i64.wrap (k : Int) = (k : Int) := IntWalk.i64_in _ (by omega)
        have k0 : (0 : Int) ≤ (k : Int) := by omega
        have kl : (k : Int) < (cc.length : Int) := by omega
        obtain ⟨x, hx⟩ : ∃ x, cc[k]? = some x := ⟨_, List.getElem?_eq_getElem hkl⟩
        have HX := Lib.hid hx
        obtain ⟨b, cap, hv9, hgB, hgl⟩ := World.ownsRow.form HS6.out.sb.zone (by omega)
        injection hv9 with hv9 _ hv8
        subst hv9 hv8
        have HgB := Lib.hid hgB
        clear hx hk hgB hgl h0
        have HZ := Lib.hid (show (srcM d).zones[k]? = some x.1.1 from by rw [← HCC.out, List.getElem?_map, HX.out]; rfl)
        have hlx : x.1.1.name.length ≤ 1048576 := ((srcM_right d).sz.zones x.1.1 (List.mem_of_getElem? HZ.out)).1
        have hl1 : (⟨#[120]⟩ : ByteArray).size = 1 := rfl
        have hsa := ByteArray.size_append (a := ⟨x.1.1.name.toArray⟩) (b := ⟨#[120]⟩)
        go_upto_region 29 with fail
        refine wp_region_rels 15 [[], [], [], [], [], [], [], [], [], [], [], [], [], [], []] [Form.val, Form.val, Form.val, Form.val, Form.val, Form.val, Form.val, Form.val, Form.val, Form.val, Form.val, Form.val, Form.val, Form.val, Form.val] (fun W => AS wA gc d cc (.slice m1 (srcM d).rules.length k1) (.slice (some ⟨b, 0, none⟩) cc.length k2) (.slice m3 (srcM d).links.length k3) (.slice m4 (srcM d).shifts.length k4) W) (by kernel_rfl) (by kernel_rfl) rfl rfl (HS6.out.below (Below.refl _ _).drew) (fun W W2 h hb => h.below hb) trivial ?_
        repeat (first | apply exSpec_rel | apply exSpec_new | apply exSpec_val)
        apply relWalk_ex rfl ?oq6_0 (fun K hK => ?nq6_0)
        case oq6_0 =>
          intro W hC hF
          have s1 := hC.sb.out.cell_ (i := 1) rfl
          have hcx : W.cell? ⟨b, k * 2, none⟩ = some (.string ⟨x.1.1.name.toArray⟩) := (own_cell encZV (fun x => (zone_cells x).1) hC.sb.zone (j := 0) HX.out (by decide) rfl).1
          go_simp
          all_goals exact ⟨Below.refl _ _, rfl⟩
        case' nq6_0 =>
          go_simp
          refine hK _ ?_
          clear hK K
        apply relWalk_ex rfl ?oq6_1 (fun K hK => ?nq6_1)
        case oq6_1 =>
          intro W hC hF
          have s1 := hC.sb.out.cell_ (i := 1) rfl
          have hcx : W.cell? ⟨b, k * 2, none⟩ = some (.string ⟨x.1.1.name.toArray⟩) := (own_cell encZV (fun x => (zone_cells x).1) hC.sb.zone (j := 0) HX.out (by decide) rfl).1
          go_simp
          all_goals exact ⟨Below.refl _ _, rfl⟩
        case' nq6_1 =>
          go_simp
          refine hK _ ?_
          clear hK K
        apply relWalk_ex rfl ?oq6_2 (fun K hK => ?nq6_2)
        case oq6_2 =>
          intro W hC hF
          have s1 := hC.sb.out.cell_ (i := 1) rfl
          have hcx : W.cell? ⟨b, k * 2, none⟩ = some (.string ⟨x.1.1.name.toArray⟩) := (own_cell encZV (fun x => (zone_cells x).1) hC.sb.zone (j := 0) HX.out (by decide) rfl).1
          go_simp
          all_goals exact ⟨Below.refl _ _, rfl⟩
        case' nq6_2 =>
          go_simp
          refine hK _ ?_
          clear hK K
        apply relWalk_ex rfl ?oq6_3 (fun K hK => ?nq6_3)
        case oq6_3 =>
          intro W hC hF
          have s1 := hC.sb.out.cell_ (i := 1) rfl
          have hcx : W.cell? ⟨b, k * 2, none⟩ = some (.string ⟨x.1.1.name.toArray⟩) := (own_cell encZV (fun x => (zone_cells x).1) hC.sb.zone (j := 0) HX.out (by decide) rfl).1
          go_simp
          all_goals exact ⟨Below.refl _ _, rfl⟩
        case' nq6_3 =>
          go_simp
          refine hK _ ?_
          clear hK K
        apply relWalk_ex rfl ?oq6_4 (fun K hK => ?nq6_4)
        case oq6_4 =>
          intro W hC hF
          have s1 := hC.sb.out.cell_ (i := 1) rfl
          have hcx : W.cell? ⟨b, k * 2, none⟩ = some (.string ⟨x.1.1.name.toArray⟩) := (own_cell encZV (fun x => (zone_cells x).1) hC.sb.zone (j := 0) HX.out (by decide) rfl).1
          go_simp
          all_goals exact ⟨Below.refl _ _, rfl⟩
        case' nq6_4 =>
          go_simp
          refine hK _ ?_
          clear hK K
        apply relWalk_ex rfl ?oq6_5 (fun K hK => ?nq6_5)
        case oq6_5 =>
          intro W hC hF
          have s1 := hC.sb.out.cell_ (i := 1) rfl
          have hcx : W.cell? ⟨b, k * 2, none⟩ = some (.string ⟨x.1.1.name.toArray⟩) := (own_cell encZV (fun x => (zone_cells x).1) hC.sb.zone (j := 0) HX.out (by decide) rfl).1
          go_simp
          all_goals exact ⟨Below.refl _ _, rfl⟩
        case' nq6_5 =>
          go_simp
          refine hK _ ?_
          clear hK K
        apply relWalk_ex rfl ?oq6_6 (fun K hK => ?nq6_6)
        case oq6_6 =>
          intro W hC hF
          have s1 := hC.sb.out.cell_ (i := 1) rfl
          have hcx : W.cell? ⟨b, k * 2, none⟩ = some (.string ⟨x.1.1.name.toArray⟩) := (own_cell encZV (fun x => (zone_cells x).1) hC.sb.zone (j := 0) HX.out (by decide) rfl).1
          go_simp
          all_goals exact ⟨Below.refl _ _, rfl⟩
        case' nq6_6 =>
          go_simp
          refine hK _ ?_
          clear hK K
        apply relWalk_ex rfl ?oq6_7 (fun K hK => ?nq6_7)
        case oq6_7 =>
          intro W hC hF
          have s1 := hC.sb.out.cell_ (i := 1) rfl
          have hcx : W.cell? ⟨b, k * 2, none⟩ = some (.string ⟨x.1.1.name.toArray⟩) := (own_cell encZV (fun x => (zone_cells x).1) hC.sb.zone (j := 0) HX.out (by decide) rfl).1
          go_simp
          all_goals exact ⟨Below.refl _ _, rfl⟩
        case' nq6_7 =>
          go_simp
          refine hK _ ?_
          clear hK K
        apply relWalk_ex rfl ?oq6_8 (fun K hK => ?nq6_8)
        case oq6_8 =>
          intro W hC hF
          have s1 := hC.sb.out.cell_ (i := 1) rfl
          have hcx : W.cell? ⟨b, k * 2, none⟩ = some (.string ⟨x.1.1.name.toArray⟩) := (own_cell encZV (fun x => (zone_cells x).1) hC.sb.zone (j := 0) HX.out (by decide) rfl).1
          go_simp
          all_goals exact ⟨Below.refl _ _, rfl⟩
        case' nq6_8 =>
          go_simp
          refine hK _ ?_
          clear hK K
        apply relWalk_ex rfl ?oq6_9 (fun K hK => ?nq6_9)
        case oq6_9 =>
          intro W hC hF
          have s1 := hC.sb.out.cell_ (i := 1) rfl
          have hcx : W.cell? ⟨b, k * 2, none⟩ = some (.string ⟨x.1.1.name.toArray⟩) := (own_cell encZV (fun x => (zone_cells x).1) hC.sb.zone (j := 0) HX.out (by decide) rfl).1
          go_simp
          all_goals exact ⟨Below.refl _ _, rfl⟩
        case' nq6_9 =>
          go_simp
          refine hK _ ?_
          clear hK K
        apply relWalk_ex rfl ?oq6_10 (fun K hK => ?nq6_10)
        case oq6_10 =>
          intro W hC hF
          have s1 := hC.sb.out.cell_ (i := 1) rfl
          have hcx : W.cell? ⟨b, k * 2, none⟩ = some (.string ⟨x.1.1.name.toArray⟩) := (own_cell encZV (fun x => (zone_cells x).1) hC.sb.zone (j := 0) HX.out (by decide) rfl).1
          go_simp
          all_goals exact ⟨Below.refl _ _, rfl⟩
        case' nq6_10 =>
          go_simp
          refine hK _ ?_
          clear hK K
        apply relWalk_ex rfl ?oq6_11 (fun K hK => ?nq6_11)
        case oq6_11 =>
          intro W hC hF
          have s1 := hC.sb.out.cell_ (i := 1) rfl
          have hcx : W.cell? ⟨b, k * 2, none⟩ = some (.string ⟨x.1.1.name.toArray⟩) := (own_cell encZV (fun x => (zone_cells x).1) hC.sb.zone (j := 0) HX.out (by decide) rfl).1
          go_simp
          all_goals exact ⟨Below.refl _ _, rfl⟩
        case' nq6_11 =>
          go_simp
          refine hK _ ?_
          clear hK K
        apply relWalk_ex rfl ?oq6_12 (fun K hK => ?nq6_12)
        case oq6_12 =>
          intro W hC hF
          have s1 := hC.sb.out.cell_ (i := 1) rfl
          have hcx : W.cell? ⟨b, k * 2, none⟩ = some (.string ⟨x.1.1.name.toArray⟩) := (own_cell encZV (fun x => (zone_cells x).1) hC.sb.zone (j := 0) HX.out (by decide) rfl).1
          go_simp
          all_goals (first | exact ⟨Below.refl _ _, rfl⟩ | (rw [if_neg (by omega)]; exact ⟨Below.refl _ _, rfl⟩))
        case' nq6_12 =>
          go_simp
          refine hK _ ?_
          clear hK K
        apply relWalk_ex rfl ?oq6_13 (fun K hK => ?nq6_13)
        case oq6_13 =>
          intro W hC hF
          have s1 := hC.sb.out.cell_ (i := 1) rfl
          have hcx : W.cell? ⟨b, k * 2, none⟩ = some (.string ⟨x.1.1.name.toArray⟩) := (own_cell encZV (fun x => (zone_cells x).1) hC.sb.zone (j := 0) HX.out (by decide) rfl).1
          go_simp
          all_goals exact ⟨Below.refl _ _, rfl⟩
        case' nq6_13 =>
          go_simp
          refine hK _ ?_
          clear hK K
        apply relWalk_ex rfl ?oq6_14 (fun K hK => ?nq6_14)
        case oq6_14 =>
          intro W hC hF
          have s1 := hC.sb.out.cell_ (i := 1) rfl
          have hcx : W.cell? ⟨b, k * 2, none⟩ = some (.string ⟨x.1.1.name.toArray⟩) := (own_cell encZV (fun x => (zone_cells x).1) hC.sb.zone (j := 0) HX.out (by decide) rfl).1
          go_simp
          all_goals exact ⟨Below.refl _ _, rfl⟩
        case' nq6_14 =>
          go_simp
          refine hK _ ?_
          clear hK K
        apply relWalk_end
        intro W hC hF hU
        have HCW := Lib.hid hC
        have hcx : W.cell? ⟨b, k * 2, none⟩ = some (.string ⟨x.1.1.name.toArray⟩) := (own_cell encZV (fun x => (zone_cells x).1) hC.sb.zone (j := 0) HX.out (by decide) rfl).1
        have fcx : W.frozen? ⟨b, k * 2, none⟩ = false := (own_cell encZV (fun x => (zone_cells x).1) hC.sb.zone (j := 0) (u := .string ⟨x.1.1.name.toArray⟩) HX.out (by decide) rfl).2
        clear hC hF hU
        go_wp2_with fail
        go_meet
        have HP := HCW.out.sb.mzone (y := ⟨(⟨x.1.1.name ++ [120], x.1.1.eras⟩, x.1.2), x.2⟩) (u := (.string ((⟨x.1.1.name.toArray⟩ : ByteArray) ++ ⟨#[120]⟩))) HX.out (show 0 < 2 by decide) (by rw [str_x]; rfl) rfl rfl
        have hs := HP.src
        rw [show (cc.set k ⟨(⟨x.1.1.name ++ [120], x.1.1.eras⟩, x.1.2), x.2⟩).map (fun q => q.1.1) = (srcM d).zones.set k ⟨x.1.1.name ++ [120], x.1.1.eras⟩ from by rw [List.map_set, HCC.out]] at hs
        exact ⟨_, _, _, _, _, _, HP.out, hs, HCW.out.bel.setCell HgB.out _, by exact apart_mzone d (x := x.1.1) (y := ⟨x.1.1.name ++ [120], x.1.1.eras⟩) HZ.out (fun h => by have := congrArg (fun l => l.name.length) h; simp at this) rfl⟩
    · have e0 : ((n : Int) % 8 == 0) = false := by rw [beq_eq_false_iff_ne]; omega
      have e1 : ((n : Int) % 8 == 1) = false := by rw [beq_eq_false_iff_ne]; omega
      have e2 : ((n : Int) % 8 == 2) = false := by rw [beq_eq_false_iff_ne]; omega
      have e3 : ((n : Int) % 8 == 3) = false := by rw [beq_eq_false_iff_ne]; omega
      have e4 : ((n : Int) % 8 == 4) = false := by rw [beq_eq_false_iff_ne]; omega
      have e5 : ((n : Int) % 8 == 5) = false := by rw [beq_eq_false_iff_ne]; omega
      have e6 : ((n : Int) % 8 == 6) = false := by rw [beq_eq_false_iff_ne]; omega
      clear hvv
      clear hbyrule hzcrule hszrule hzrule hirule zrule irule hbyzone hzczone hszzone hzzone hizone zzone izone hbylink hzclink hszlink hzlink hilink zlink ilink hbystr hzcstr hszstr hzstr histr zstr istr
      have s2 := HS6.out.sb.out.cell_ (i := 2) rfl
      have kz := srcM_small d
      have kcu : cc.length ≤ 6 := by have h := kz.2.1; rw [← HCC.out, List.length_map] at h; exact h
      have hnn : (srcM d).links.length ≤ 12 := by omega
      clear kz kcu
      by_cases h0 : (srcM d).links.length = 0
      · have hz : (((srcM d).links.length : Int) == 0) = true := by rw [h0]; rfl
        go_wp2_with fail
        refine (pworks_any _ (HTT.out _ (HAF.out w6 HS6.out.bel).bel).1 (HTT.out _ (HAF.out w6 HS6.out.bel).bel).2).mono ?_
        rintro e w7 ⟨rfl, hb⟩
        have HB7 := Lib.hid ((HAF.out w6 HS6.out.bel).bel.trans (hb.mono (HAF.out w6 HS6.out.bel).bel.size))
        clear hb
        go_wp2_with fail
        go_ret
        exact ⟨rfl, HB7.out⟩
      · have hz : (((srcM d).links.length : Int) == 0) = false := by rw [beq_eq_false_iff_ne]; omega
        obtain ⟨k, hk⟩ : ∃ k, (n / 8) % (srcM d).links.length = k := ⟨_, rfl⟩
        have hkl : k < (srcM d).links.length := by rw [← hk]; exact Nat.mod_lt _ (by omega)
        have hq : (n : Int).tdiv 8 = (n : Int) / 8 := Int.tdiv_eq_ediv_of_nonneg (by omega)
        have hwq : IntKind.u8.wrap ((n : Int) / 8) = (n : Int) / 8 := IntWalk.u8_in _ (by omega)
        have hw3 : IntKind.i64.wrap ((n : Int) / 8) = (n : Int) / 8 := IntWalk.i64_in _ (by omega)
        have hrm : ((n : Int) / 8).tmod ((srcM d).links.length : Int) = (k : Int) := by rw [Int.tmod_eq_emod_of_nonneg (by omega), ← hk]; exact (Int.natCast_emod _ _).symm
        have hnl : ¬ (srcM d).links = [] := fun h => h0 (by rw [h]; rfl)
        have hwk : IntKind.i64.wrap (k : Int) = (k : Int) := IntWalk.i64_in _ (by omega)
        have k0 : (0 : Int) ≤ (k : Int) := by omega
        have kl : (k : Int) < ((srcM d).links.length : Int) := by omega
        obtain ⟨x, hx⟩ : ∃ x, (srcM d).links[k]? = some x := ⟨_, List.getElem?_eq_getElem hkl⟩
        have HX := Lib.hid hx
        obtain ⟨b, cap, hv9, hgB, hgl⟩ := World.ownsRow.form HS6.out.sb.link (by omega)
        injection hv9 with hv9 _ hv8
        subst hv9 hv8
        have HgB := Lib.hid hgB
        clear hx hk hgB hgl h0
        have hlx : x.target.length ≤ 1048576 := ((srcM_right d).sz.links x (List.mem_of_getElem? HX.out)).1
        have hl1 : (⟨#[120]⟩ : ByteArray).size = 1 := rfl
        have hsa := ByteArray.size_append (a := ⟨x.target.toArray⟩) (b := ⟨#[120]⟩)
        go_upto_region 8 with fail
        refine wp_region_rels 15 [[], [], [], [], [], [], [], [], [], [], [], [], [], [], []] [Form.val, Form.val, Form.val, Form.val, Form.val, Form.val, Form.val, Form.val, Form.val, Form.val, Form.val, Form.val, Form.val, Form.val, Form.val] (fun W => AS wA gc d cc (.slice m1 (srcM d).rules.length k1) (.slice m2 cc.length k2) (.slice (some ⟨b, 0, none⟩) (srcM d).links.length k3) (.slice m4 (srcM d).shifts.length k4) W) (by kernel_rfl) (by kernel_rfl) rfl rfl (HS6.out.below (Below.refl _ _).drew) (fun W W2 h hb => h.below hb) trivial ?_
        repeat (first | apply exSpec_rel | apply exSpec_new | apply exSpec_val)
        apply relWalk_ex rfl ?oq7_0 (fun K hK => ?nq7_0)
        case oq7_0 =>
          intro W hC hF
          have s2 := hC.sb.out.cell_ (i := 2) rfl
          have hcx : W.cell? ⟨b, k * 2, none⟩ = some (.string ⟨x.target.toArray⟩) := (own_cell LinkP.cells (fun x => (link_cells x).1) hC.sb.link (j := 0) HX.out (by decide) rfl).1
          go_simp
          all_goals exact ⟨Below.refl _ _, rfl⟩
        case' nq7_0 =>
          go_simp
          refine hK _ ?_
          clear hK K
        apply relWalk_ex rfl ?oq7_1 (fun K hK => ?nq7_1)
        case oq7_1 =>
          intro W hC hF
          have s2 := hC.sb.out.cell_ (i := 2) rfl
          have hcx : W.cell? ⟨b, k * 2, none⟩ = some (.string ⟨x.target.toArray⟩) := (own_cell LinkP.cells (fun x => (link_cells x).1) hC.sb.link (j := 0) HX.out (by decide) rfl).1
          go_simp
          all_goals exact ⟨Below.refl _ _, rfl⟩
        case' nq7_1 =>
          go_simp
          refine hK _ ?_
          clear hK K
        apply relWalk_ex rfl ?oq7_2 (fun K hK => ?nq7_2)
        case oq7_2 =>
          intro W hC hF
          have s2 := hC.sb.out.cell_ (i := 2) rfl
          have hcx : W.cell? ⟨b, k * 2, none⟩ = some (.string ⟨x.target.toArray⟩) := (own_cell LinkP.cells (fun x => (link_cells x).1) hC.sb.link (j := 0) HX.out (by decide) rfl).1
          go_simp
          all_goals exact ⟨Below.refl _ _, rfl⟩
        case' nq7_2 =>
          go_simp
          refine hK _ ?_
          clear hK K
        apply relWalk_ex rfl ?oq7_3 (fun K hK => ?nq7_3)
        case oq7_3 =>
          intro W hC hF
          have s2 := hC.sb.out.cell_ (i := 2) rfl
          have hcx : W.cell? ⟨b, k * 2, none⟩ = some (.string ⟨x.target.toArray⟩) := (own_cell LinkP.cells (fun x => (link_cells x).1) hC.sb.link (j := 0) HX.out (by decide) rfl).1
          go_simp
          all_goals exact ⟨Below.refl _ _, rfl⟩
        case' nq7_3 =>
          go_simp
          refine hK _ ?_
          clear hK K
        apply relWalk_ex rfl ?oq7_4 (fun K hK => ?nq7_4)
        case oq7_4 =>
          intro W hC hF
          have s2 := hC.sb.out.cell_ (i := 2) rfl
          have hcx : W.cell? ⟨b, k * 2, none⟩ = some (.string ⟨x.target.toArray⟩) := (own_cell LinkP.cells (fun x => (link_cells x).1) hC.sb.link (j := 0) HX.out (by decide) rfl).1
          go_simp
          all_goals exact ⟨Below.refl _ _, rfl⟩
        case' nq7_4 =>
          go_simp
          refine hK _ ?_
          clear hK K
        apply relWalk_ex rfl ?oq7_5 (fun K hK => ?nq7_5)
        case oq7_5 =>
          intro W hC hF
          have s2 := hC.sb.out.cell_ (i := 2) rfl
          have hcx : W.cell? ⟨b, k * 2, none⟩ = some (.string ⟨x.target.toArray⟩) := (own_cell LinkP.cells (fun x => (link_cells x).1) hC.sb.link (j := 0) HX.out (by decide) rfl).1
          go_simp
          all_goals exact ⟨Below.refl _ _, rfl⟩
        case' nq7_5 =>
          go_simp
          refine hK _ ?_
          clear hK K
        apply relWalk_ex rfl ?oq7_6 (fun K hK => ?nq7_6)
        case oq7_6 =>
          intro W hC hF
          have s2 := hC.sb.out.cell_ (i := 2) rfl
          have hcx : W.cell? ⟨b, k * 2, none⟩ = some (.string ⟨x.target.toArray⟩) := (own_cell LinkP.cells (fun x => (link_cells x).1) hC.sb.link (j := 0) HX.out (by decide) rfl).1
          go_simp
          all_goals exact ⟨Below.refl _ _, rfl⟩
        case' nq7_6 =>
          go_simp
          refine hK _ ?_
          clear hK K
        apply relWalk_ex rfl ?oq7_7 (fun K hK => ?nq7_7)
        case oq7_7 =>
          intro W hC hF
          have s2 := hC.sb.out.cell_ (i := 2) rfl
          have hcx : W.cell? ⟨b, k * 2, none⟩ = some (.string ⟨x.target.toArray⟩) := (own_cell LinkP.cells (fun x => (link_cells x).1) hC.sb.link (j := 0) HX.out (by decide) rfl).1
          go_simp
          all_goals exact ⟨Below.refl _ _, rfl⟩
        case' nq7_7 =>
          go_simp
          refine hK _ ?_
          clear hK K
        apply relWalk_ex rfl ?oq7_8 (fun K hK => ?nq7_8)
        case oq7_8 =>
          intro W hC hF
          have s2 := hC.sb.out.cell_ (i := 2) rfl
          have hcx : W.cell? ⟨b, k * 2, none⟩ = some (.string ⟨x.target.toArray⟩) := (own_cell LinkP.cells (fun x => (link_cells x).1) hC.sb.link (j := 0) HX.out (by decide) rfl).1
          go_simp
          all_goals exact ⟨Below.refl _ _, rfl⟩
        case' nq7_8 =>
          go_simp
          refine hK _ ?_
          clear hK K
        apply relWalk_ex rfl ?oq7_9 (fun K hK => ?nq7_9)
        case oq7_9 =>
          intro W hC hF
          have s2 := hC.sb.out.cell_ (i := 2) rfl
          have hcx : W.cell? ⟨b, k * 2, none⟩ = some (.string ⟨x.target.toArray⟩) := (own_cell LinkP.cells (fun x => (link_cells x).1) hC.sb.link (j := 0) HX.out (by decide) rfl).1
          go_simp
          all_goals exact ⟨Below.refl _ _, rfl⟩
        case' nq7_9 =>
          go_simp
          refine hK _ ?_
          clear hK K
        apply relWalk_ex rfl ?oq7_10 (fun K hK => ?nq7_10)
        case oq7_10 =>
          intro W hC hF
          have s2 := hC.sb.out.cell_ (i := 2) rfl
          have hcx : W.cell? ⟨b, k * 2, none⟩ = some (.string ⟨x.target.toArray⟩) := (own_cell LinkP.cells (fun x => (link_cells x).1) hC.sb.link (j := 0) HX.out (by decide) rfl).1
          go_simp
          all_goals exact ⟨Below.refl _ _, rfl⟩
        case' nq7_10 =>
          go_simp
          refine hK _ ?_
          clear hK K
        apply relWalk_ex rfl ?oq7_11 (fun K hK => ?nq7_11)
        case oq7_11 =>
          intro W hC hF
          have s2 := hC.sb.out.cell_ (i := 2) rfl
          have hcx : W.cell? ⟨b, k * 2, none⟩ = some (.string ⟨x.target.toArray⟩) := (own_cell LinkP.cells (fun x => (link_cells x).1) hC.sb.link (j := 0) HX.out (by decide) rfl).1
          go_simp
          all_goals exact ⟨Below.refl _ _, rfl⟩
        case' nq7_11 =>
          go_simp
          refine hK _ ?_
          clear hK K
        apply relWalk_ex rfl ?oq7_12 (fun K hK => ?nq7_12)
        case oq7_12 =>
          intro W hC hF
          have s2 := hC.sb.out.cell_ (i := 2) rfl
          have hcx : W.cell? ⟨b, k * 2, none⟩ = some (.string ⟨x.target.toArray⟩) := (own_cell LinkP.cells (fun x => (link_cells x).1) hC.sb.link (j := 0) HX.out (by decide) rfl).1
          go_simp
          all_goals (first | exact ⟨Below.refl _ _, rfl⟩ | (rw [if_neg (by omega)]; exact ⟨Below.refl _ _, rfl⟩))
        case' nq7_12 =>
          go_simp
          refine hK _ ?_
          clear hK K
        apply relWalk_ex rfl ?oq7_13 (fun K hK => ?nq7_13)
        case oq7_13 =>
          intro W hC hF
          have s2 := hC.sb.out.cell_ (i := 2) rfl
          have hcx : W.cell? ⟨b, k * 2, none⟩ = some (.string ⟨x.target.toArray⟩) := (own_cell LinkP.cells (fun x => (link_cells x).1) hC.sb.link (j := 0) HX.out (by decide) rfl).1
          go_simp
          all_goals exact ⟨Below.refl _ _, rfl⟩
        case' nq7_13 =>
          go_simp
          refine hK _ ?_
          clear hK K
        apply relWalk_ex rfl ?oq7_14 (fun K hK => ?nq7_14)
        case oq7_14 =>
          intro W hC hF
          have s2 := hC.sb.out.cell_ (i := 2) rfl
          have hcx : W.cell? ⟨b, k * 2, none⟩ = some (.string ⟨x.target.toArray⟩) := (own_cell LinkP.cells (fun x => (link_cells x).1) hC.sb.link (j := 0) HX.out (by decide) rfl).1
          go_simp
          all_goals exact ⟨Below.refl _ _, rfl⟩
        case' nq7_14 =>
          go_simp
          refine hK _ ?_
          clear hK K
        apply relWalk_end
        intro W hC hF hU
        have HCW := Lib.hid hC
        have hcx : W.cell? ⟨b, k * 2, none⟩ = some (.string ⟨x.target.toArray⟩) := (own_cell LinkP.cells (fun x => (link_cells x).1) hC.sb.link (j := 0) HX.out (by decide) rfl).1
        have fcx : W.frozen? ⟨b, k * 2, none⟩ = false := (own_cell LinkP.cells (fun x => (link_cells x).1) hC.sb.link (j := 0) (u := .string ⟨x.target.toArray⟩) HX.out (by decide) rfl).2
        clear hC hF hU
        go_wp2_with fail
        go_meet
        have HP := HCW.out.sb.mlink (y := ⟨x.target ++ [120], x.name⟩) (u := (.string ((⟨x.target.toArray⟩ : ByteArray) ++ ⟨#[120]⟩))) HX.out (show 0 < 2 by decide) (by rw [str_x]; rfl)
        have hs := HP.src
        rw [HCC.out] at hs
        exact ⟨_, _, _, _, _, _, HP.out, hs, HCW.out.bel.setCell HgB.out _, by exact apart_mlink d HX.out (fun h => by have := congrArg (fun l => l.target.length) h; simp at this)⟩
  case rest =>
    obtain ⟨s2, v1, zv, v3, v4, zs, hblk, hsrc, hbel, hne, hln⟩ := hcut
    obtain ⟨x1, y1, rfl⟩ := hsrc.1.slice
    obtain ⟨x2, y2, rfl⟩ := hsrc.2.1.slice
    obtain ⟨x3, y3, rfl⟩ := hsrc.2.2.2.2.1.slice
    obtain ⟨x4, y4, rfl⟩ := hsrc.2.2.2.2.2.slice
    have HX6 := Lib.hid (show SrcB wA gc #[.slice x1 s2.rules.length y1, .slice x2 zs.length y2, .slice x3 s2.links.length y3, .slice x4 s2.shifts.length y4] s2 wc from ⟨hblk, ⟨_, _, _, _, _, rfl, hsrc⟩, hbel⟩)
    have HNE := Lib.hid hne
    have HL2 := Lib.hid hln
    have HSa := Lib.hid (show ∀ W, SrcB wA gc #[.slice x1 s2.rules.length y1, .slice x2 zs.length y2, .slice x3 s2.links.length y3, .slice x4 s2.shifts.length y4] s2 W → Calls Tryz.prog 15 #[.agg #[.slice q1 (srcM d).rules.length d1, .slice q2 cur.length d2, .slice q3 (srcM d).links.length d3, .slice q4 (srcM d).shifts.length d4], .agg #[.slice x1 s2.rules.length y1, .slice x2 zs.length y2, .slice x3 s2.links.length y3, .slice x4 s2.shifts.length y4]] W fun e w' => e = .returned (.bool false) ∧ Below W.heap.size W w' from fun W h => by
      have := same_src (HAF.out W h.2.2).av h.2.1 HLN.out HL2.out
      rwa [decide_eq_false (Ne.symm HNE.out)] at this)
    have HSb := Lib.hid (show ∀ W, SrcB wA gc #[.slice x1 s2.rules.length y1, .slice x2 zs.length y2, .slice x3 s2.links.length y3, .slice x4 s2.shifts.length y4] s2 W → Calls Tryz.prog 15 #[.agg #[.slice x1 s2.rules.length y1, .slice x2 zs.length y2, .slice x3 s2.links.length y3, .slice x4 s2.shifts.length y4], .agg #[.slice q1 (srcM d).rules.length d1, .slice q2 cur.length d2, .slice q3 (srcM d).links.length d3, .slice q4 (srcM d).shifts.length d4]] W fun e w' => e = .returned (.bool false) ∧ Below W.heap.size W w' from fun W h => by
      have := same_src h.2.1 (HAF.out W h.2.2).av HL2.out HLN.out
      rwa [decide_eq_false HNE.out] at this)
    have HRa := Lib.hid (show ∀ W u, SrcB wA gc #[.slice x1 s2.rules.length y1, .slice x2 zs.length y2, .slice x3 s2.links.length y3, .slice x4 s2.shifts.length y4] s2 W → SOV wA.heap.size (srcM d) u W → Calls Tryz.prog 13 #[.agg #[.slice q1 (srcM d).rules.length d1, .slice q2 cur.length d2, .slice q3 (srcM d).links.length d3, .slice q4 (srcM d).shifts.length d4], u] W fun e w' => e = .returned (.bool true) ∧ Below W.heap.size W w' from fun W u h hu => by
      have := r14same_s (HAF.out W h.2.2).av (sov_src hu) HLN.out HLN.out
      rwa [decide_eq_true rfl] at this)
    clear hblk hsrc hbel hne hln HSV HCC
    go_upto_region 30 with fail
    refine wp_region_rels 19 [[], [], [], [], [], [], [], [], [], [], [], [], [], [], [13], [], [], [], []] [Form.val, Form.val, Form.val, Form.val, Form.val, Form.val, Form.val, Form.val, Form.val, Form.val, Form.val, Form.val, Form.val, Form.rel (SOV wA.heap.size (srcM d)), Form.val, Form.val, Form.val, Form.val, Form.val] (fun W => SrcB wA gc #[.slice x1 s2.rules.length y1, .slice x2 zs.length y2, .slice x3 s2.links.length y3, .slice x4 s2.shifts.length y4] s2 W) (by kernel_rfl) (by kernel_rfl) rfl rfl (HX6.out.below (Below.refl _ _).drew) (fun W W2 h hb => h.below hb) ⟨SOV.last _ _, trivial⟩ ?_
    repeat (first | apply exSpec_rel | apply exSpec_new | apply exSpec_val)
    apply relWalk_ex rfl ?o0 (fun K hK => ?n0)
    case o0 =>
      intro W hC hF
      exact relAt_load 27 (.tmp 5) rfl ga rfl 27 #[.slice q1 (srcM d).rules.length d1, .slice q2 cur.length d2, .slice q3 (srcM d).links.length d3, .slice q4 (srcM d).shifts.length d4] _ (HAF.out W hC.2.2).a Tryz.underlying27 rfl (by kernel_rfl)
    case' n0 =>
      go_simp
      refine hK _ ?_
      clear hK K
    apply relWalk_ex rfl ?o1 (fun K hK => ?n1)
    case o1 =>
      intro W hC hF
      exact relAt_load 27 (.tmp 6) rfl gc rfl 27 #[.slice x1 s2.rules.length y1, .slice x2 zs.length y2, .slice x3 s2.links.length y3, .slice x4 s2.shifts.length y4] _ hC.1 Tryz.underlying27 rfl (by kernel_rfl)
    case' n1 =>
      go_simp
      refine hK _ ?_
      clear hK K
    apply relWalk_ex rfl ?o2 (fun K hK => ?n2)
    case o2 =>
      intro W hC hF
      go_simp
      all_goals exact (HSa.out W hC).mono fun e w2 ⟨he, hb⟩ => ⟨he, hb⟩
    case' n2 =>
      go_simp
      refine hK _ ?_
      clear hK K
    apply relWalk_ex rfl ?o3 (fun K hK => ?n3)
    case o3 =>
      intro W hC hF
      go_simp
      all_goals exact ⟨Below.refl _ _, rfl⟩
    case' n3 =>
      go_simp
      refine hK _ ?_
      clear hK K
    apply relWalk_ex rfl ?o4 (fun K hK => ?n4)
    case o4 =>
      intro W hC hF
      go_simp
      all_goals exact ⟨Below.refl _ _, rfl⟩
    case' n4 =>
      go_simp
      refine hK _ ?_
      clear hK K
    apply relWalk_exg ?o5 (fun K hK => ?n5)
    case o5 =>
      intro W hC hF
      first | exact relOp_off rfl rfl rfl rfl | exact relOp_none rfl rfl rfl | skip
      all_goals
        refine relOp_on rfl rfl ?_
        exact relAt_load 27 (.tmp 6) rfl gc rfl 27 #[.slice x1 s2.rules.length y1, .slice x2 zs.length y2, .slice x3 s2.links.length y3, .slice x4 s2.shifts.length y4] _ hC.1 Tryz.underlying27 rfl (by kernel_rfl)
    case' n5 =>
      go_simp
      refine hK _ ?_
      clear hK K
    apply relWalk_exg ?o6 (fun K hK => ?n6)
    case o6 =>
      intro W hC hF
      first | exact relOp_off rfl rfl rfl rfl | exact relOp_none rfl rfl rfl | skip
      all_goals
        refine relOp_on rfl rfl ?_
        exact relAt_load 27 (.tmp 5) rfl ga rfl 27 #[.slice q1 (srcM d).rules.length d1, .slice q2 cur.length d2, .slice q3 (srcM d).links.length d3, .slice q4 (srcM d).shifts.length d4] _ (HAF.out W hC.2.2).a Tryz.underlying27 rfl (by kernel_rfl)
    case' n6 =>
      go_simp
      refine hK _ ?_
      clear hK K
    apply relWalk_exg ?o7 (fun K hK => ?n7)
    case o7 =>
      intro W hC hF
      first | exact relOp_off rfl rfl rfl rfl | exact relOp_none rfl rfl rfl | skip
      all_goals
        refine relOp_on rfl rfl ?_
        go_simp
        all_goals exact (HSb.out W hC).mono fun e w2 ⟨he, hb⟩ => ⟨he, hb⟩
    case' n7 =>
      go_simp
      refine hK _ ?_
      clear hK K
    apply relWalk_exg ?o8 (fun K hK => ?n8)
    case o8 =>
      intro W hC hF
      first | exact relOp_off rfl rfl rfl rfl | exact relOp_none rfl rfl rfl | skip
      all_goals
        refine relOp_on rfl rfl ?_
        go_simp
        all_goals exact ⟨Below.refl _ _, rfl⟩
    case' n8 =>
      go_simp
      refine hK _ ?_
      clear hK K
    apply relWalk_ex rfl ?o9 (fun K hK => ?n9)
    case o9 =>
      intro W hC hF
      go_simp
      all_goals exact ⟨Below.refl _ _, rfl⟩
    case' n9 =>
      go_simp
      refine hK _ ?_
      clear hK K
    apply relWalk_ex rfl ?o10 (fun K hK => ?n10)
    case o10 =>
      intro W hC hF
      go_simp
      all_goals exact ⟨Below.refl _ _, rfl⟩
    case' n10 =>
      go_simp
      refine hK _ ?_
      clear hK K
    apply relWalk_exg ?o11 (fun K hK => ?n11)
    case o11 =>
      intro W hC hF
      first | exact relOp_off rfl rfl rfl rfl | exact relOp_none rfl rfl rfl | skip
      all_goals
        refine relOp_on rfl rfl ?_
        exact relAt_load 27 (.tmp 5) rfl ga rfl 27 #[.slice q1 (srcM d).rules.length d1, .slice q2 cur.length d2, .slice q3 (srcM d).links.length d3, .slice q4 (srcM d).shifts.length d4] _ (HAF.out W hC.2.2).a Tryz.underlying27 rfl (by kernel_rfl)
    case' n11 =>
      go_simp
      refine hK _ ?_
      clear hK K
    apply relWalk_exg ?o12 (fun K hK => ?n12)
    case o12 =>
      intro W hC hF
      first | exact relOp_off rfl rfl rfl rfl | exact relOp_none rfl rfl rfl | skip
      all_goals
        refine relOp_on rfl rfl ?_
        exact relAt_load 39 (.tmp 2) rfl w.heap.size rfl 39 #[.slice p1 n1 c1, .slice p2 n2 c2, .slice p3 n3 c3, .slice p4 n4 c4, .slice p5 n5 c5] _ (HAF.out W hC.2.2).dr Tryz.underlying39 rfl (by kernel_rfl)
    case' n12 =>
      go_simp
      refine hK _ ?_
      clear hK K
    apply relWalk_relg ?o13 (fun u13 K hK => ?n13)
    case o13 =>
      intro W hC hF
      all_goals
        refine relOp_on rfl rfl ?_
        go_simp
        all_goals exact (made14_src (HAF.out W hC.2.2).dv hC.2.2.size).mono fun e w2 ⟨⟨v2, he, ho⟩, hb⟩ => ⟨v2, he, hb, ho⟩
    case' n13 =>
      go_simp
      refine hK _ ?_
      clear hK K
    apply relWalk_exg ?o14 (fun K hK => ?n14)
    case o14 =>
      intro W hC hF
      first | exact relOp_off rfl rfl rfl rfl | exact relOp_none rfl rfl rfl | skip
      all_goals
        refine relOp_on rfl rfl ?_
        go_simp
        all_goals exact (HRa.out W _ hC hF.1).mono fun e w2 ⟨he, hb⟩ => ⟨he, hb⟩
    case' n14 =>
      go_simp
      refine hK _ ?_
      clear hK K
    apply relWalk_ex rfl ?o15 (fun K hK => ?n15)
    case o15 =>
      intro W hC hF
      go_simp
      all_goals exact ⟨Below.refl _ _, rfl⟩
    case' n15 =>
      go_simp
      refine hK _ ?_
      clear hK K
    apply relWalk_ex rfl ?o16 (fun K hK => ?n16)
    case o16 =>
      intro W hC hF
      go_simp
      all_goals exact ⟨Below.refl _ _, rfl⟩
    case' n16 =>
      go_simp
      refine hK _ ?_
      clear hK K
    apply relWalk_exg ?o17 (fun K hK => ?n17)
    case o17 =>
      intro W hC hF
      first | exact relOp_off rfl rfl rfl rfl | exact relOp_none rfl rfl rfl | skip
      all_goals
        refine relOp_on rfl rfl ?_
        go_simp
        all_goals exact (pworks_any W (HTT.out W (HAF.out W hC.2.2).bel).1 (HTT.out W (HAF.out W hC.2.2).bel).2).mono fun e w2 ⟨he, hb⟩ => ⟨he, hb⟩
    case' n17 =>
      go_simp
      refine hK _ ?_
      clear hK K
    apply relWalk_ex rfl ?o18 (fun K hK => ?n18)
    case o18 =>
      intro W hC hF
      go_simp
      all_goals exact ⟨Below.refl _ _, rfl⟩
    case' n18 =>
      go_simp
      refine hK _ ?_
      clear hK K
    apply relWalk_end
    intro W hC hF hU
    have HBw := Lib.hid (HAF.out W hC.2.2).bel
    clear hC hF hU HSa HSb HRa HX6 HAF
    go_wp2_with fail
    go_ret
    exact ⟨rfl, HBw.out⟩
end Go.Proofs.YtmcgbjjcpcgcfaaGreatDoor
