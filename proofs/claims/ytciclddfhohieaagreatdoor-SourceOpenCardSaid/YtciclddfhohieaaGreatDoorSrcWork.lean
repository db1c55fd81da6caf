/-
  The examples of works, read by the plain function.
  works of analemmalaw13.
-/
import Derived.Test.YtciclddfhohieaaGreatDoorSrcRefd
set_option linter.unusedVariables false
set_option linter.unusedSimpArgs false
namespace Go.Proofs.YtciclddfhohieaaGreatDoor
open Go.RowKit Go.Shelf

def exAT : List UInt8 := [82, 117, 108, 101, 32, 82, 32, 49, 57, 57, 48, 32, 109, 97, 120, 32, 45, 32, 77, 97, 114, 32, 108, 97, 115, 116, 83, 117, 110, 32, 50, 58, 48, 48, 32, 49, 58, 48, 48, 32, 83, 10, 35, 32, 120, 10, 90, 111, 110, 101, 32, 90, 47, 65, 32, 49, 58, 48, 48, 32, 45, 32, 76, 77, 84, 32, 49, 57, 57, 48, 10, 32, 50, 58, 48, 48, 32, 82, 32, 69, 37, 115, 84, 10, 76, 105, 110, 107, 32, 90, 47, 65, 32, 66]
def exAS : SourceP := (srcR exAT).1.1
def exAL : LinesP := (srcR exAT).1.2
theorem exA_read : srcR exAT = ((exAS, exAL), 0, 0) := by
  have h : (srcR exAT).2 = (0, 0) := by decide +kernel
  unfold exAS exAL
  rw [← h]
def exBT : List UInt8 := [82, 32, 82, 32, 49, 57, 57, 48, 32, 111, 110, 108, 121, 32, 45, 32, 74, 97, 110, 32, 49, 32, 48, 58, 48, 48, 32, 48, 32, 45, 10, 122, 32, 90, 32, 48, 58, 48, 48, 32, 45, 32, 71, 77, 84, 10, 108, 32, 90, 32, 89, 10, 115, 104, 32, 82]
def exBS : SourceP := (srcR exBT).1.1
def exBL : LinesP := (srcR exBT).1.2
theorem exB_read : srcR exBT = ((exBS, exBL), 0, 0) := by
  have h : (srcR exBT).2 = (0, 0) := by decide +kernel
  unfold exBS exBL
  rw [← h]
theorem exA_src : exAS.rules.length = 1 ∧ exAS.zones.length = 1 ∧ (exAS.zones.map fun z => z.eras.length) = [2] ∧ (exAS.zones.map fun z => z.eras.map fun e => e.set) = [[[], [82]]] ∧ exAS.links.length = 1 ∧ (exAS.links.map fun l => l.name) = [[66]] ∧ exAS.shifts = [] := by decide +kernel
theorem exA_lns : exAL = ⟨[1], [[3, 4]], [5], []⟩ := by decide +kernel
theorem exB_src : exBS.shifts = [[82]] := by decide +kernel
theorem exB_lns : exBL = ⟨[1], [[2]], [3], [4]⟩ := by decide +kernel
theorem exC_read : srcR [] = ((SourceP.none, LinesP.none), 0, 0) := by decide +kernel
theorem exR0_read : srcR [35, 32, 120, 10, 90, 111, 110, 101, 10, 76, 105, 110, 107] = ((SourceP.none, LinesP.none), 2, 5) := by decide +kernel
theorem exR1_read : srcR [90, 111, 110, 101, 32, 90, 32, 48, 58, 48, 48, 32, 45, 32, 71, 77, 84, 32, 49, 57, 57, 48, 10, 35, 32, 120] = ((SourceP.none, LinesP.none), 1, 5) := by decide +kernel
theorem exR2_read : srcR [90, 111, 110, 101, 100, 32, 90, 32, 48, 58, 48, 48, 32, 45, 32, 71, 77, 84] = ((SourceP.none, LinesP.none), 1, 8) := by decide +kernel


theorem parse_ok (s : ByteArray) (w : World) (hW : SW w) (hs : s.size ≤ 1048576) {src : SourceP} {ln : LinesP} (hr : srcR s.data.toList = ((src, ln), 0, 0)) :
    Calls Tryz.prog 7 #[.string s] w fun e w' => (∃ B st cur el, ∃ v : V8, e = .returned (.tuple #[.agg #[v.v1, v.v2, v.v3, v.v4], .agg #[v.u1, v.u2, v.u3, v.u4], .nilIface]) ∧ RR B st cur el v w' ∧ st.s = src ∧ st.l = ln) ∧ Below w.heap.size w w' := by
  refine (sparse_any s w hW.tabs hW.maxl hW.errt hs).mono ?_
  rintro e w1 ⟨hp, hb⟩
  unfold ParsePost at hp
  rw [hr] at hp
  rcases hp with ⟨-, h⟩ | ⟨h0, -⟩
  · exact ⟨h, hb⟩
  · exact absurd rfl h0
theorem RowsAt.at_ {α : Type} {w : World} {n k : Nat} {enc : α → Array Value} {sl : Value} {l : List α} (h : RowsAt w n k enc sl l) (hne : l ≠ []) : ∃ b o c, sl = .slice (some ⟨b, o, none⟩) l.length c ∧ b < n ∧ ∀ i x, l[i]? = some x → ∀ j v, (enc x).toList[j]? = some v → w.cell? ⟨b, o + i * k + j, none⟩ = some v := by
  obtain ⟨p, c, rfl, r⟩ := h
  obtain ⟨b, o, rfl, hb, ha⟩ := r hne
  exact ⟨b, o, c, rfl, hb, fun i x hx j v hv => ha i x hx j v hv⟩
theorem lit_int {W : World} {b T c n : Nat} (l : List Int) (h : Blk W b T (l.map (Value.int .i64)).toArray) (hb : b < n) : RowsAt W n 1 encI (.slice (some ⟨b, 0, none⟩) l.length c) l :=
  ⟨_, c, rfl, fun _ => ⟨b, 0, rfl, hb, fun i x hx j v hv => by
    match j, hv with
    | 0, hv =>
      cases hv
      have := h.cell_ (i := i) (u := .int .i64 x) (by rw [List.getElem?_toArray, List.getElem?_map, hx]; rfl)
      rwa [Nat.mul_one, Nat.zero_add, Nat.add_zero]
    | j + 1, hv => simp [encI] at hv⟩⟩
theorem lit_one {W : World} {b T c n : Nat} (v : Value) (l : List Int) (h : Blk W b T #[v]) (hb : b < n) : RowsAt W n 1 encW (.slice (some ⟨b, 0, none⟩) 1 c) [((v, l) : IV)] :=
  ⟨_, c, rfl, fun _ => ⟨b, 0, rfl, hb, fun i x hx j u hv => by
    match i, hx with
    | 0, hx =>
      cases hx
      match j, hv with
      | 0, hv =>
        cases hv
        exact h.cell_ (i := 0) rfl
      | j + 1, hv => simp [encW] at hv
    | i + 1, hx => simp at hx⟩⟩
theorem exA_form {w : World} {n : Nat} {v1 zv v3 v4 : Value} {zs : List (ZoneP × Value)} (h : SrcIs w n v1 zv v3 v4 zs exAS) : ∃ p1 c1 bz oz cz be oe ce bl ol cl p4 c4, v1 = .slice p1 1 c1 ∧ zv = .slice (some ⟨bz, oz, none⟩) 1 cz ∧ v3 = .slice (some ⟨bl, ol, none⟩) 1 cl ∧ v4 = .slice p4 0 c4 ∧ w.cell? ⟨bz, oz + 1, none⟩ = some (.slice (some ⟨be, oe, none⟩) 2 ce) ∧ w.cell? ⟨be, oe + 16, none⟩ = some (.string ⟨#[82]⟩) ∧ w.cell? ⟨bl, ol + 1, none⟩ = some (.string ⟨#[66]⟩) ∧ bz < n ∧ be < n ∧ bl < n := by
  obtain ⟨f1, f2, f3, f4, f5, f6, f7⟩ := exA_src
  obtain ⟨p1, c1, e1⟩ := h.1.slice
  obtain ⟨p4, c4, e4⟩ := h.2.2.2.2.2.slice
  rw [f1] at e1
  rw [f7] at e4
  obtain ⟨z, hz⟩ : ∃ z, exAS.zones = [z] := by
    match hh : exAS.zones, f2 with
    | [z], _ => exact ⟨z, rfl⟩
  obtain ⟨x, hx⟩ : ∃ x, exAS.links = [x] := by
    match hh : exAS.links, f5 with
    | [x], _ => exact ⟨x, rfl⟩
  rw [hz] at f3 f4
  rw [hx] at f6
  simp only [List.map_cons, List.map_nil, List.cons.injEq, and_true] at f3 f4 f6
  obtain ⟨⟨z2, ev⟩, hzs⟩ : ∃ q, zs = [q] := by
    have hl : zs.length = 1 := by have := congrArg List.length h.2.2.1; rw [hz] at this; simpa using this
    match zs, hl with
    | [q], _ => exact ⟨q, rfl⟩
  have hzz : z2 = z := by have := h.2.2.1; rw [hzs, hz] at this; simpa using this
  subst hzz
  obtain ⟨bz, oz, cz, e2, hbz, hcz⟩ := h.2.1.at_ (by rw [hzs]; simp)
  obtain ⟨be, oe, ce, e5, hbe, hce⟩ := (h.2.2.2.1 (z2, ev) (by rw [hzs]; simp)).at_ (by intro h0; have h0 : z2.eras = [] := h0; rw [h0] at f3; simp at f3)
  obtain ⟨bl, ol, cl, e3, hbl, hcl⟩ := h.2.2.2.2.1.at_ (by rw [hx]; simp)
  rw [hzs] at e2
  rw [hx] at e3
  replace e5 : ev = .slice (some ⟨be, oe, none⟩) z2.eras.length ce := e5
  rw [f3] at e5
  have q1 := hcz 0 (z2, ev) (by rw [hzs]; rfl) 1 ev rfl
  have hel : ∃ a d, z2.eras = [a, d] ∧ d.set = [82] := by
    match hh : z2.eras, f3 with
    | [a, d], _ => rw [hh] at f4; simp at f4; exact ⟨a, d, rfl, f4.2⟩
  obtain ⟨a, d, hed, hds⟩ := hel
  have q2 := hce 1 d (by show z2.eras[1]? = some d; rw [hed]; rfl) 3 (.string ⟨#[82]⟩) (by show some (Value.string ⟨d.set.toArray⟩) = _; rw [hds])
  have q3 := hcl 0 x (by rw [hx]; rfl) 1 (.string ⟨#[66]⟩) (by show some (Value.string ⟨x.name.toArray⟩) = _; rw [f6])
  subst e5
  exact ⟨p1, c1, bz, oz, cz, be, oe, ce, bl, ol, cl, p4, c4, e1, e2, e3, e4, by simpa using q1, by simpa using q2, by simpa using q3, hbz, hbe, hbl⟩
theorem ln_form {w : World} {n : Nat} {u1 u2 u3 u4 : Value} {el : List IV} {l : LinesP} (h : LnIs w n u1 u2 u3 u4 el l) : ∃ q1 d1 q2 d2 q3 d3 q4 d4, u1 = .slice q1 l.rules.length d1 ∧ u2 = .slice q2 l.eras.length d2 ∧ u3 = .slice q3 l.links.length d3 ∧ u4 = .slice q4 l.shifts.length d4 := by
  obtain ⟨q1, d1, e1⟩ := h.1.slice
  obtain ⟨q2, d2, e2⟩ := h.2.1.slice
  obtain ⟨q3, d3, e3⟩ := h.2.2.2.2.1.slice
  obtain ⟨q4, d4, e4⟩ := h.2.2.2.2.2.slice
  have hel : el.length = l.eras.length := by rw [← h.2.2.1]; simp
  exact ⟨q1, d1, q2, d2, q3, d3, q4, d4, e1, by rw [← hel]; exact e2, e3, e4⟩
theorem src_form {w : World} {n : Nat} {u1 u2 u3 u4 : Value} {zs : List (ZoneP × Value)} {l : SourceP} (h : SrcIs w n u1 u2 u3 u4 zs l) : ∃ q1 d1 q2 d2 q3 d3 q4 d4, u1 = .slice q1 l.rules.length d1 ∧ u2 = .slice q2 l.zones.length d2 ∧ u3 = .slice q3 l.links.length d3 ∧ u4 = .slice q4 l.shifts.length d4 := by
  obtain ⟨q1, d1, e1⟩ := h.1.slice
  obtain ⟨q2, d2, e2⟩ := h.2.1.slice
  obtain ⟨q3, d3, e3⟩ := h.2.2.2.2.1.slice
  obtain ⟨q4, d4, e4⟩ := h.2.2.2.2.2.slice
  have hel : zs.length = l.zones.length := by rw [← h.2.2.1]; simp
  exact ⟨q1, d1, q2, d2, q3, d3, q4, d4, e1, by rw [← hel]; exact e2, e3, e4⟩
theorem lit_str {W : World} {b T c n : Nat} (x : List UInt8) (h : Blk W b T #[.string ⟨x.toArray⟩]) (hb : b < n) : RowsAt W n 1 encS (.slice (some ⟨b, 0, none⟩) 1 c) [x] :=
  ⟨_, c, rfl, fun _ => ⟨b, 0, rfl, hb, fun i y hx j u hv => by
    match i, hx with
    | 0, hx =>
      cases hx
      match j, hv with
      | 0, hv =>
        cases hv
        exact h.cell_ (i := 0) rfl
      | j + 1, hv => simp [encS] at hv
    | i + 1, hx => simp at hx⟩⟩
set_option maxRecDepth 100000 in
set_option maxHeartbeats 1000000 in
theorem works_any (w : World) (hW : SW w) : Calls Tryz.prog 6 #[] w fun e w' => e = .returned (.bool true) ∧ Below w.heap.size w w' := by
  have HW := Lib.hid hW
  have HPA := Lib.hid (parse_ok ⟨exAT.toArray⟩ w hW (by decide) (src := exAS) (ln := exAL) exA_read)
  clear hW
  go_enter Tryz.func6, Tryz.ntmps6
  go_wp2_with fail
  refine HPA.out.mono ?_
  rintro e1 w1 ⟨⟨B1, st1, cur1, el, ⟨v1, zv, v3, v4, u1, u2, u3, u4⟩, rfl, hr1, hst, hln⟩, hb1⟩
  have hs1 := hr1.src
  have hl1 := hr1.ln
  rw [hst] at hs1
  rw [hln, exA_lns] at hl1
  clear hr1 hst hln B1
  simp only at hs1 hl1 ⊢
  obtain ⟨p1, c1, bz, oz, cz, be, oe, ce, bl, ol, cl, p4, c4, rfl, rfl, rfl, rfl, hz, he, hx, hbz, hbe, hbl⟩ := exA_form hs1
  obtain ⟨q1, d1, q2, d2, q3, d3, q4, d4, rfl, rfl, rfl, rfl⟩ := ln_form hl1
  simp only [List.length_cons, List.length_nil, Nat.zero_add] at hl1 ⊢
  have hba : Below w1.heap.size w1 ((w1.alloc (.cells #[.slice p1 1 c1, .slice (some ⟨bz, oz, none⟩) 1 cz, .slice (some ⟨bl, ol, none⟩) 1 cl, .slice p4 0 c4] 28)).alloc (.cells #[.slice q1 1 d1, .slice q2 1 d2, .slice q3 1 d3, .slice q4 0 d4] 32)) := ((Below.refl _ _).alloc (Nat.le_refl _) _).alloc (by simp) _
  have HA := Lib.hid (show Blk ((w1.alloc (.cells #[.slice p1 1 c1, .slice (some ⟨bz, oz, none⟩) 1 cz, .slice (some ⟨bl, ol, none⟩) 1 cl, .slice p4 0 c4] 28)).alloc (.cells #[.slice q1 1 d1, .slice q2 1 d2, .slice q3 1 d3, .slice q4 0 d4] 32)) w1.heap.size 28 #[.slice p1 1 c1, .slice (some ⟨bz, oz, none⟩) 1 cz, .slice (some ⟨bl, ol, none⟩) 1 cl, .slice p4 0 c4] ∧ Blk ((w1.alloc (.cells #[.slice p1 1 c1, .slice (some ⟨bz, oz, none⟩) 1 cz, .slice (some ⟨bl, ol, none⟩) 1 cl, .slice p4 0 c4] 28)).alloc (.cells #[.slice q1 1 d1, .slice q2 1 d2, .slice q3 1 d3, .slice q4 0 d4] 32)) (w1.heap.size + 1) 32 #[.slice q1 1 d1, .slice q2 1 d2, .slice q3 1 d3, .slice q4 0 d4] ∧ Below w.heap.size w ((w1.alloc (.cells #[.slice p1 1 c1, .slice (some ⟨bz, oz, none⟩) 1 cz, .slice (some ⟨bl, ol, none⟩) 1 cl, .slice p4 0 c4] 28)).alloc (.cells #[.slice q1 1 d1, .slice q2 1 d2, .slice q3 1 d3, .slice q4 0 d4] 32)) ∧ SW ((w1.alloc (.cells #[.slice p1 1 c1, .slice (some ⟨bz, oz, none⟩) 1 cz, .slice (some ⟨bl, ol, none⟩) 1 cl, .slice p4 0 c4] 28)).alloc (.cells #[.slice q1 1 d1, .slice q2 1 d2, .slice q3 1 d3, .slice q4 0 d4] 32)) ∧ LnIs ((w1.alloc (.cells #[.slice p1 1 c1, .slice (some ⟨bz, oz, none⟩) 1 cz, .slice (some ⟨bl, ol, none⟩) 1 cl, .slice p4 0 c4] 28)).alloc (.cells #[.slice q1 1 d1, .slice q2 1 d2, .slice q3 1 d3, .slice q4 0 d4] 32)) ((w1.alloc (.cells #[.slice p1 1 c1, .slice (some ⟨bz, oz, none⟩) 1 cz, .slice (some ⟨bl, ol, none⟩) 1 cl, .slice p4 0 c4] 28)).alloc (.cells #[.slice q1 1 d1, .slice q2 1 d2, .slice q3 1 d3, .slice q4 0 d4] 32)).heap.size (.slice q1 1 d1) (.slice q2 1 d2) (.slice q3 1 d3) (.slice q4 0 d4) el ⟨[1], [[3, 4]], [5], []⟩ from ⟨(Blk.new' _ _ _ rfl).alloc _, Blk.new' _ _ _ (by simp), hb1.trans (hba.mono hb1.size), HW.out.below (hb1.trans (hba.mono hb1.size)), (hl1.below hba).mono hba.size⟩)
  replace hz := (hba.cell (p := ⟨bz, oz + 1, none⟩) hbz).trans hz
  replace he := (hba.cell (p := ⟨be, oe + 16, none⟩) hbe).trans he
  replace hx := (hba.cell (p := ⟨bl, ol + 1, none⟩) hbl).trans hx
  have HAW := Lib.hid (show w.heap.size ≤ w1.heap.size from hb1.size)
  clear hs1 hl1 hb1 hba hbz hbe hbl HPA
  go_upto_region 2 with fail
  generalize ((w1.alloc (.cells #[.slice p1 1 c1, .slice (some ⟨bz, oz, none⟩) 1 cz, .slice (some ⟨bl, ol, none⟩) 1 cl, .slice p4 0 c4] 28)).alloc (.cells #[.slice q1 1 d1, .slice q2 1 d2, .slice q3 1 d3, .slice q4 0 d4] 32)) = wa at *
  generalize w1.heap.size = A at *
  have s0 := HA.out.1.cell_ (i := 0) rfl
  have s1 := HA.out.1.cell_ (i := 1) rfl
  have s2 := HA.out.1.cell_ (i := 2) rfl
  have s3 := HA.out.1.cell_ (i := 3) rfl
  have l0 := HA.out.2.1.cell_ (i := 0) rfl
  have l1 := HA.out.2.1.cell_ (i := 1) rfl
  have l2 := HA.out.2.1.cell_ (i := 2) rfl
  have l3 := HA.out.2.1.cell_ (i := 3) rfl
  have hbb : Below wa.heap.size wa ((((wa.alloc (.cells #[.int .i64 1] 3)).alloc (.cells #[.int .i64 3, .int .i64 4] 3)).alloc (.cells #[.slice (some ⟨wa.heap.size + 1, 0, none⟩) 2 2] 29)).alloc (.cells #[.int .i64 5] 3)) := ((((Below.refl _ _).alloc (Nat.le_refl _) _).alloc (by simp) _).alloc (by simp <;> omega) _).alloc (by simp <;> omega) _
  have HL2 := Lib.hid (show LnIs ((((wa.alloc (.cells #[.int .i64 1] 3)).alloc (.cells #[.int .i64 3, .int .i64 4] 3)).alloc (.cells #[.slice (some ⟨wa.heap.size + 1, 0, none⟩) 2 2] 29)).alloc (.cells #[.int .i64 5] 3)) ((((wa.alloc (.cells #[.int .i64 1] 3)).alloc (.cells #[.int .i64 3, .int .i64 4] 3)).alloc (.cells #[.slice (some ⟨wa.heap.size + 1, 0, none⟩) 2 2] 29)).alloc (.cells #[.int .i64 5] 3)).heap.size (.slice (some ⟨wa.heap.size, 0, none⟩) 1 1) (.slice (some ⟨wa.heap.size + 2, 0, none⟩) 1 1) (.slice (some ⟨wa.heap.size + 3, 0, none⟩) 1 1) (.slice none 0 0) [(.slice (some ⟨wa.heap.size + 1, 0, none⟩) 2 2, [3, 4])] ⟨[1], [[3, 4]], [5], []⟩ from ⟨lit_int (T := 3) [1] ((((Blk.new' _ _ _ rfl).alloc _).alloc _).alloc _) (by simp <;> omega), lit_one (T := 29) _ _ ((Blk.new' _ _ _ (by simp)).alloc _) (by simp <;> omega), rfl, fun q hq => by simp at hq; subst hq; exact lit_int (T := 3) [3, 4] (((Blk.new' _ _ _ (by simp)).alloc _).alloc _) (by simp <;> omega), lit_int (T := 3) [5] (Blk.new' _ _ _ (by simp)) (by simp), ⟨none, 0, rfl, fun h => absurd rfl h⟩⟩)
  have HSL := Lib.hid (sameLn_any _ _ _ _ _ _ _ _ _ _ _ _ ((((wa.alloc (.cells #[.int .i64 1] 3)).alloc (.cells #[.int .i64 3, .int .i64 4] 3)).alloc (.cells #[.slice (some ⟨wa.heap.size + 1, 0, none⟩) 2 2] 29)).alloc (.cells #[.int .i64 5] 3)) ((HA.out.2.2.2.2.below hbb).mono hbb.size) HL2.out ⟨by decide, by decide, by decide, by decide, by decide⟩ ⟨by decide, by decide, by decide, by decide, by decide⟩)
  rw [decide_eq_true rfl] at HSL
  have HB := Lib.hid (And.intro HA.out.1 (And.intro HA.out.2.1 (And.intro HA.out.2.2.1 (And.intro HA.out.2.2.2.1 hbb))))
  clear HL2 HA hbb
  go_wp2_with fail
  refine HSL.out.mono ?_
  rintro e2 w2 ⟨rfl, hb2⟩
  go_upto_region 4 with fail
  have hx2 := HB.out.2.2.2.2.trans (hb2.mono HB.out.2.2.2.2.size)
  have HB2 := Lib.hid (show Blk w2 A 28 #[.slice p1 1 c1, .slice (some ⟨bz, oz, none⟩) 1 cz, .slice (some ⟨bl, ol, none⟩) 1 cl, .slice p4 0 c4] ∧ Blk w2 (A + 1) 32 #[.slice q1 1 d1, .slice q2 1 d2, .slice q3 1 d3, .slice q4 0 d4] ∧ Below w.heap.size w w2 ∧ SW w2 from ⟨HB.out.1.below hx2 HB.out.1.lt, HB.out.2.1.below hx2 HB.out.2.1.lt, HB.out.2.2.1.trans (hx2.mono HB.out.2.2.1.size), HB.out.2.2.2.1.below hx2⟩)
  clear hx2 hb2 HSL HB hz he hx s0 s1 s2 s3 l0 l1 l2 l3
  have HPC := Lib.hid (parse_ok ⟨#[]⟩ w2 HB2.out.2.2.2 (by decide) (src := SourceP.none) (ln := LinesP.none) exC_read)
  go_wp2_with fail
  refine HPC.out.mono ?_
  rintro e3 w3 ⟨⟨B1, st1, cur1, el1, ⟨v1, zv, v3, v4, u1, u2, u3, u4⟩, rfl, hr1, hst, hln⟩, hb3⟩
  have hs1 := hr1.src
  have hl1 := hr1.ln
  rw [hst] at hs1
  rw [hln] at hl1
  clear hr1 hst hln B1
  simp only at hs1 hl1 ⊢
  obtain ⟨x1, y1, x2, y2, x3, y3, x4, y4, rfl, rfl, rfl, rfl⟩ := src_form hs1
  obtain ⟨x5, y5, x6, y6, x7, y7, x8, y8, rfl, rfl, rfl, rfl⟩ := ln_form hl1
  simp only [SourceP.none, LinesP.none, List.length_nil] at hs1 hl1 ⊢
  have hba : Below w3.heap.size w3 ((w3.alloc (.cells #[.slice x1 0 y1, .slice x2 0 y2, .slice x3 0 y3, .slice x4 0 y4] 28)).alloc (.cells #[.slice x5 0 y5, .slice x6 0 y6, .slice x7 0 y7, .slice x8 0 y8] 32)) := ((Below.refl _ _).alloc (Nat.le_refl _) _).alloc (by simp) _
  have hbc := hb3.trans (hba.mono hb3.size)
  have HC := Lib.hid (show Blk ((w3.alloc (.cells #[.slice x1 0 y1, .slice x2 0 y2, .slice x3 0 y3, .slice x4 0 y4] 28)).alloc (.cells #[.slice x5 0 y5, .slice x6 0 y6, .slice x7 0 y7, .slice x8 0 y8] 32)) A 28 #[.slice p1 1 c1, .slice (some ⟨bz, oz, none⟩) 1 cz, .slice (some ⟨bl, ol, none⟩) 1 cl, .slice p4 0 c4] ∧ Blk ((w3.alloc (.cells #[.slice x1 0 y1, .slice x2 0 y2, .slice x3 0 y3, .slice x4 0 y4] 28)).alloc (.cells #[.slice x5 0 y5, .slice x6 0 y6, .slice x7 0 y7, .slice x8 0 y8] 32)) (A + 1) 32 #[.slice q1 1 d1, .slice q2 1 d2, .slice q3 1 d3, .slice q4 0 d4] ∧ Below w.heap.size w ((w3.alloc (.cells #[.slice x1 0 y1, .slice x2 0 y2, .slice x3 0 y3, .slice x4 0 y4] 28)).alloc (.cells #[.slice x5 0 y5, .slice x6 0 y6, .slice x7 0 y7, .slice x8 0 y8] 32)) ∧ SW ((w3.alloc (.cells #[.slice x1 0 y1, .slice x2 0 y2, .slice x3 0 y3, .slice x4 0 y4] 28)).alloc (.cells #[.slice x5 0 y5, .slice x6 0 y6, .slice x7 0 y7, .slice x8 0 y8] 32)) ∧ Blk ((w3.alloc (.cells #[.slice x1 0 y1, .slice x2 0 y2, .slice x3 0 y3, .slice x4 0 y4] 28)).alloc (.cells #[.slice x5 0 y5, .slice x6 0 y6, .slice x7 0 y7, .slice x8 0 y8] 32)) w3.heap.size 28 #[.slice x1 0 y1, .slice x2 0 y2, .slice x3 0 y3, .slice x4 0 y4] from ⟨HB2.out.1.below hbc HB2.out.1.lt, HB2.out.2.1.below hbc HB2.out.2.1.lt, HB2.out.2.2.1.trans (hbc.mono HB2.out.2.2.1.size), HB2.out.2.2.2.below hbc, (Blk.new' _ _ _ rfl).alloc _⟩)
  have HSC := Lib.hid (sameSrc_any _ _ _ _ _ _ _ _ _ _ _ _ ((w3.alloc (.cells #[.slice x1 0 y1, .slice x2 0 y2, .slice x3 0 y3, .slice x4 0 y4] 28)).alloc (.cells #[.slice x5 0 y5, .slice x6 0 y6, .slice x7 0 y7, .slice x8 0 y8] 32)) ((hs1.below hba).mono hba.size) (SrcIs.nil _ _) SrcLn.nil SrcLn.nil)
  simp only [SourceP.none, decide_true] at HSC
  clear hs1 hl1 hb3 hba hbc HPC HB2
  go_upto_region 5 with fail
  generalize ((w3.alloc (.cells #[.slice x1 0 y1, .slice x2 0 y2, .slice x3 0 y3, .slice x4 0 y4] 28)).alloc (.cells #[.slice x5 0 y5, .slice x6 0 y6, .slice x7 0 y7, .slice x8 0 y8] 32)) = wc at *
  generalize w3.heap.size = C at *
  have s0 := HC.out.2.2.2.2.cell_ (i := 0) rfl
  have s1 := HC.out.2.2.2.2.cell_ (i := 1) rfl
  have s2 := HC.out.2.2.2.2.cell_ (i := 2) rfl
  have s3 := HC.out.2.2.2.2.cell_ (i := 3) rfl
  go_wp2_with fail
  refine HSC.out.mono ?_
  rintro e4 w4 ⟨rfl, hb4⟩
  go_upto_region 7 with fail
  have HD := Lib.hid (show Blk w4 A 28 #[.slice p1 1 c1, .slice (some ⟨bz, oz, none⟩) 1 cz, .slice (some ⟨bl, ol, none⟩) 1 cl, .slice p4 0 c4] ∧ Blk w4 (A + 1) 32 #[.slice q1 1 d1, .slice q2 1 d2, .slice q3 1 d3, .slice q4 0 d4] ∧ Below w.heap.size w w4 ∧ SW w4 from ⟨HC.out.1.below hb4 HC.out.1.lt, HC.out.2.1.below hb4 HC.out.2.1.lt, HC.out.2.2.1.trans (hb4.mono HC.out.2.2.1.size), HC.out.2.2.2.1.below hb4⟩)
  clear hb4 HC HSC s0 s1 s2 s3
  have HPE := Lib.hid (parse_ok ⟨exBT.toArray⟩ w4 HD.out.2.2.2 (by decide) (src := exBS) (ln := exBL) exB_read)
  go_wp2_with fail
  refine HPE.out.mono ?_
  rintro e5 w5 ⟨⟨B5, st5, cur5, el5, ⟨a1, a2, a3, a4, a5, a6, a7, a8⟩, rfl, hr5, hst, hln⟩, hb5⟩
  rw [exB_lns] at hln
  obtain ⟨f1, h1, f2, h2, f3, h3, f4, h4, g1, g2, g3, g4⟩ := src_form hr5.src
  obtain ⟨f5, h5, f6, h6, f7, h7, f8, h8, g5, g6, g7, g8⟩ := ln_form hr5.ln
  rw [hst] at g1 g2 g3 g4
  rw [exB_src] at g4
  rw [hln] at g5 g6 g7 g8
  replace g1 : a1 = .slice f1 exBS.rules.length h1 := g1
  replace g2 : a2 = .slice f2 exBS.zones.length h2 := g2
  replace g3 : a3 = .slice f3 exBS.links.length h3 := g3
  replace g4 : a4 = .slice f4 1 h4 := g4
  replace g5 : a5 = .slice f5 1 h5 := g5
  replace g6 : a6 = .slice f6 1 h6 := g6
  replace g7 : a7 = .slice f7 1 h7 := g7
  replace g8 : a8 = .slice f8 1 h8 := g8
  subst g1 g2 g3 g4 g5 g6 g7 g8
  simp only at hr5 ⊢
  have k0 := HD.out.2.2.1.trans (hb5.mono HD.out.2.2.1.size)
  have r0 := hr5
  have b0 := HD.out.1.below hb5 HD.out.1.lt
  have c0 := HD.out.2.1.below hb5 HD.out.2.1.lt
  have HQ := Lib.hid (And.intro b0 c0)
  have r1 := r0.far b0 (by decide) (j := 0) (.slice f1 exBS.rules.length h1)
  have b1 := b0.set_ 0 (.slice f1 exBS.rules.length h1)
  have c1 := c0.far (p := ⟨A, 0, none⟩) (by show A + 1 ≠ A; omega) (.slice f1 exBS.rules.length h1)
  have k1 := k0.setCell (p := ⟨A, 0, none⟩) (HAW.out) (.slice f1 exBS.rules.length h1)
  have r2 := r1.far b1 (by decide) (j := 1) (.slice f2 exBS.zones.length h2)
  have b2 := b1.set_ 1 (.slice f2 exBS.zones.length h2)
  have c2 := c1.far (p := ⟨A, 1, none⟩) (by show A + 1 ≠ A; omega) (.slice f2 exBS.zones.length h2)
  have k2 := k1.setCell (p := ⟨A, 1, none⟩) (HAW.out) (.slice f2 exBS.zones.length h2)
  have r3 := r2.far b2 (by decide) (j := 2) (.slice f3 exBS.links.length h3)
  have b3 := b2.set_ 2 (.slice f3 exBS.links.length h3)
  have c3 := c2.far (p := ⟨A, 2, none⟩) (by show A + 1 ≠ A; omega) (.slice f3 exBS.links.length h3)
  have k3 := k2.setCell (p := ⟨A, 2, none⟩) (HAW.out) (.slice f3 exBS.links.length h3)
  have r4 := r3.far b3 (by decide) (j := 3) (.slice f4 1 h4)
  have b4 := b3.set_ 3 (.slice f4 1 h4)
  have c4 := c3.far (p := ⟨A, 3, none⟩) (by show A + 1 ≠ A; omega) (.slice f4 1 h4)
  have k4 := k3.setCell (p := ⟨A, 3, none⟩) (HAW.out) (.slice f4 1 h4)
  have r5 := r4.far c4 (by decide) (j := 0) (.slice f5 1 h5)
  have c5 := c4.set_ 0 (.slice f5 1 h5)
  have b5 := b4.far (p := ⟨A + 1, 0, none⟩) (by show A ≠ A + 1; omega) (.slice f5 1 h5)
  have k5 := k4.setCell (p := ⟨A + 1, 0, none⟩) (Nat.le_succ_of_le HAW.out) (.slice f5 1 h5)
  have r6 := r5.far c5 (by decide) (j := 1) (.slice f6 1 h6)
  have c6 := c5.set_ 1 (.slice f6 1 h6)
  have b6 := b5.far (p := ⟨A + 1, 1, none⟩) (by show A ≠ A + 1; omega) (.slice f6 1 h6)
  have k6 := k5.setCell (p := ⟨A + 1, 1, none⟩) (Nat.le_succ_of_le HAW.out) (.slice f6 1 h6)
  have r7 := r6.far c6 (by decide) (j := 2) (.slice f7 1 h7)
  have c7 := c6.set_ 2 (.slice f7 1 h7)
  have b7 := b6.far (p := ⟨A + 1, 2, none⟩) (by show A ≠ A + 1; omega) (.slice f7 1 h7)
  have k7 := k6.setCell (p := ⟨A + 1, 2, none⟩) (Nat.le_succ_of_le HAW.out) (.slice f7 1 h7)
  have r8 := r7.far c7 (by decide) (j := 3) (.slice f8 1 h8)
  have c8 := c7.set_ 3 (.slice f8 1 h8)
  have b8 := b7.far (p := ⟨A + 1, 3, none⟩) (by show A ≠ A + 1; omega) (.slice f8 1 h8)
  have k8 := k7.setCell (p := ⟨A + 1, 3, none⟩) (Nat.le_succ_of_le HAW.out) (.slice f8 1 h8)
  have HE := Lib.hid (show RR B5 st5 cur5 el5 ⟨.slice f1 exBS.rules.length h1, .slice f2 exBS.zones.length h2, .slice f3 exBS.links.length h3, .slice f4 1 h4, .slice f5 1 h5, .slice f6 1 h6, .slice f7 1 h7, .slice f8 1 h8⟩ ((((((((w5.setCell ⟨A, 0, none⟩ (.slice f1 exBS.rules.length h1)).setCell ⟨A, 1, none⟩ (.slice f2 exBS.zones.length h2)).setCell ⟨A, 2, none⟩ (.slice f3 exBS.links.length h3)).setCell ⟨A, 3, none⟩ (.slice f4 1 h4)).setCell ⟨A + 1, 0, none⟩ (.slice f5 1 h5)).setCell ⟨A + 1, 1, none⟩ (.slice f6 1 h6)).setCell ⟨A + 1, 2, none⟩ (.slice f7 1 h7)).setCell ⟨A + 1, 3, none⟩ (.slice f8 1 h8)) ∧ Blk ((((((((w5.setCell ⟨A, 0, none⟩ (.slice f1 exBS.rules.length h1)).setCell ⟨A, 1, none⟩ (.slice f2 exBS.zones.length h2)).setCell ⟨A, 2, none⟩ (.slice f3 exBS.links.length h3)).setCell ⟨A, 3, none⟩ (.slice f4 1 h4)).setCell ⟨A + 1, 0, none⟩ (.slice f5 1 h5)).setCell ⟨A + 1, 1, none⟩ (.slice f6 1 h6)).setCell ⟨A + 1, 2, none⟩ (.slice f7 1 h7)).setCell ⟨A + 1, 3, none⟩ (.slice f8 1 h8)) A 28 #[.slice f1 exBS.rules.length h1, .slice f2 exBS.zones.length h2, .slice f3 exBS.links.length h3, .slice f4 1 h4] ∧ Blk ((((((((w5.setCell ⟨A, 0, none⟩ (.slice f1 exBS.rules.length h1)).setCell ⟨A, 1, none⟩ (.slice f2 exBS.zones.length h2)).setCell ⟨A, 2, none⟩ (.slice f3 exBS.links.length h3)).setCell ⟨A, 3, none⟩ (.slice f4 1 h4)).setCell ⟨A + 1, 0, none⟩ (.slice f5 1 h5)).setCell ⟨A + 1, 1, none⟩ (.slice f6 1 h6)).setCell ⟨A + 1, 2, none⟩ (.slice f7 1 h7)).setCell ⟨A + 1, 3, none⟩ (.slice f8 1 h8)) (A + 1) 32 #[.slice f5 1 h5, .slice f6 1 h6, .slice f7 1 h7, .slice f8 1 h8] ∧ Below w.heap.size w ((((((((w5.setCell ⟨A, 0, none⟩ (.slice f1 exBS.rules.length h1)).setCell ⟨A, 1, none⟩ (.slice f2 exBS.zones.length h2)).setCell ⟨A, 2, none⟩ (.slice f3 exBS.links.length h3)).setCell ⟨A, 3, none⟩ (.slice f4 1 h4)).setCell ⟨A + 1, 0, none⟩ (.slice f5 1 h5)).setCell ⟨A + 1, 1, none⟩ (.slice f6 1 h6)).setCell ⟨A + 1, 2, none⟩ (.slice f7 1 h7)).setCell ⟨A + 1, 3, none⟩ (.slice f8 1 h8)) ∧ SW ((((((((w5.setCell ⟨A, 0, none⟩ (.slice f1 exBS.rules.length h1)).setCell ⟨A, 1, none⟩ (.slice f2 exBS.zones.length h2)).setCell ⟨A, 2, none⟩ (.slice f3 exBS.links.length h3)).setCell ⟨A, 3, none⟩ (.slice f4 1 h4)).setCell ⟨A + 1, 0, none⟩ (.slice f5 1 h5)).setCell ⟨A + 1, 1, none⟩ (.slice f6 1 h6)).setCell ⟨A + 1, 2, none⟩ (.slice f7 1 h7)).setCell ⟨A + 1, 3, none⟩ (.slice f8 1 h8)) from ⟨r8, b8, c8, k8, HW.out.below k8⟩)
  have HST := Lib.hid (And.intro hst hln)
  clear hst hln hr5 hb5 HPE HD r0 b0 c0 k0 r1 b1 c1 k1 r2 b2 c2 k2 r3 b3 c3 k3 r4 b4 c4 k4 r5 b5 c5 k5 r6 b6 c6 k6 r7 b7 c7 k7 r8 b8 c8 k8
  have s0 := HQ.out.1.cell_ (i := 0) rfl
  have s1 := HQ.out.1.cell_ (i := 1) rfl
  have s2 := HQ.out.1.cell_ (i := 2) rfl
  have s3 := HQ.out.1.cell_ (i := 3) rfl
  have l0 := HQ.out.2.cell_ (i := 0) rfl
  have l1 := HQ.out.2.cell_ (i := 1) rfl
  have l2 := HQ.out.2.cell_ (i := 2) rfl
  have l3 := HQ.out.2.cell_ (i := 3) rfl
  have sf0 := HQ.out.1.frozen 0
  have sf1 := HQ.out.1.frozen 1
  have sf2 := HQ.out.1.frozen 2
  have sf3 := HQ.out.1.frozen 3
  have lf0 := HQ.out.2.frozen 0
  have lf1 := HQ.out.2.frozen 1
  have lf2 := HQ.out.2.frozen 2
  have lf3 := HQ.out.2.frozen 3
  go_upto_region 8 with fail
  clear s0 s1 s2 s3 l0 l1 l2 l3 sf0 sf1 sf2 sf3 lf0 lf1 lf2 lf3 HQ
  generalize ((((((((w5.setCell ⟨A, 0, none⟩ (.slice f1 exBS.rules.length h1)).setCell ⟨A, 1, none⟩ (.slice f2 exBS.zones.length h2)).setCell ⟨A, 2, none⟩ (.slice f3 exBS.links.length h3)).setCell ⟨A, 3, none⟩ (.slice f4 1 h4)).setCell ⟨A + 1, 0, none⟩ (.slice f5 1 h5)).setCell ⟨A + 1, 1, none⟩ (.slice f6 1 h6)).setCell ⟨A + 1, 2, none⟩ (.slice f7 1 h7)).setCell ⟨A + 1, 3, none⟩ (.slice f8 1 h8)) = we at *
  have s0 := HE.out.2.1.cell_ (i := 0) rfl
  have s1 := HE.out.2.1.cell_ (i := 1) rfl
  have s2 := HE.out.2.1.cell_ (i := 2) rfl
  have s3 := HE.out.2.1.cell_ (i := 3) rfl
  have hbf : Below we.heap.size we (we.alloc (.cells #[.string ⟨#[82]⟩] 9)) := (Below.refl _ _).alloc (Nat.le_refl _) _
  have HQ := Lib.hid (equalStr_any [[82]] [[82]] (.slice f4 1 h4) (.slice (some ⟨we.heap.size, 0, none⟩) 1 1) (we.alloc (.cells #[.string ⟨#[82]⟩] 9)) (by have h := HE.out.1.src; rw [HST.out.1] at h; have h2 := h.2.2.2.2.2; rw [exB_src] at h2; exact (h2.below hbf).mono hbf.size) (lit_str (T := 9) [82] (Blk.new' _ _ _ rfl) (by simp)) (by decide) (by decide))
  rw [decide_eq_true rfl] at HQ
  have HF := Lib.hid (show Blk (we.alloc (.cells #[.string ⟨#[82]⟩] 9)) (A + 1) 32 #[.slice f5 1 h5, .slice f6 1 h6, .slice f7 1 h7, .slice f8 1 h8] ∧ Below w.heap.size w (we.alloc (.cells #[.string ⟨#[82]⟩] 9)) ∧ LnIs (we.alloc (.cells #[.string ⟨#[82]⟩] 9)) (we.alloc (.cells #[.string ⟨#[82]⟩] 9)).heap.size (.slice f5 1 h5) (.slice f6 1 h6) (.slice f7 1 h7) (.slice f8 1 h8) el5 ⟨[1], [[2]], [3], [4]⟩ from ⟨HE.out.2.2.1.below hbf HE.out.2.2.1.lt, HE.out.2.2.2.1.trans (hbf.mono HE.out.2.2.2.1.size), by have h := HE.out.1.ln; rw [HST.out.2] at h; exact (h.below hbf).mono hbf.size⟩)
  clear hbf HE HST
  go_wp2_with fail
  refine HQ.out.mono ?_
  rintro e6 w6 ⟨rfl, hb6⟩
  have HG := Lib.hid (show Blk w6 (A + 1) 32 #[.slice f5 1 h5, .slice f6 1 h6, .slice f7 1 h7, .slice f8 1 h8] ∧ Below w.heap.size w w6 ∧ LnIs w6 w6.heap.size (.slice f5 1 h5) (.slice f6 1 h6) (.slice f7 1 h7) (.slice f8 1 h8) el5 ⟨[1], [[2]], [3], [4]⟩ from ⟨HF.out.1.below hb6 HF.out.1.lt, HF.out.2.1.trans (hb6.mono HF.out.2.1.size), (HF.out.2.2.below hb6).mono hb6.size⟩)
  clear hb6 HF HQ s0 s1 s2 s3
  have l0 := HG.out.1.cell_ (i := 0) rfl
  have l1 := HG.out.1.cell_ (i := 1) rfl
  have l2 := HG.out.1.cell_ (i := 2) rfl
  have l3 := HG.out.1.cell_ (i := 3) rfl
  have hbb : Below w6.heap.size w6 (((((w6.alloc (.cells #[.int .i64 1] 3)).alloc (.cells #[.int .i64 2] 3)).alloc (.cells #[.slice (some ⟨w6.heap.size + 1, 0, none⟩) 1 1] 29)).alloc (.cells #[.int .i64 3] 3)).alloc (.cells #[.int .i64 4] 3)) := (((((Below.refl _ _).alloc (Nat.le_refl _) _).alloc (by simp) _).alloc (by simp <;> omega) _).alloc (by simp <;> omega) _).alloc (by simp <;> omega) _
  have HL2 := Lib.hid (show LnIs (((((w6.alloc (.cells #[.int .i64 1] 3)).alloc (.cells #[.int .i64 2] 3)).alloc (.cells #[.slice (some ⟨w6.heap.size + 1, 0, none⟩) 1 1] 29)).alloc (.cells #[.int .i64 3] 3)).alloc (.cells #[.int .i64 4] 3)) (((((w6.alloc (.cells #[.int .i64 1] 3)).alloc (.cells #[.int .i64 2] 3)).alloc (.cells #[.slice (some ⟨w6.heap.size + 1, 0, none⟩) 1 1] 29)).alloc (.cells #[.int .i64 3] 3)).alloc (.cells #[.int .i64 4] 3)).heap.size (.slice (some ⟨w6.heap.size, 0, none⟩) 1 1) (.slice (some ⟨w6.heap.size + 2, 0, none⟩) 1 1) (.slice (some ⟨w6.heap.size + 3, 0, none⟩) 1 1) (.slice (some ⟨w6.heap.size + 4, 0, none⟩) 1 1) [(.slice (some ⟨w6.heap.size + 1, 0, none⟩) 1 1, [2])] ⟨[1], [[2]], [3], [4]⟩ from ⟨lit_int (T := 3) [1] (((((Blk.new' _ _ _ rfl).alloc _).alloc _).alloc _).alloc _) (by simp <;> omega), lit_one (T := 29) _ _ (((Blk.new' _ _ _ (by simp)).alloc _).alloc _) (by simp <;> omega), rfl, fun q hq => by simp at hq; subst hq; exact lit_int (T := 3) [2] ((((Blk.new' _ _ _ (by simp)).alloc _).alloc _).alloc _) (by simp <;> omega), lit_int (T := 3) [3] ((Blk.new' _ _ _ (by simp)).alloc _) (by simp <;> omega), lit_int (T := 3) [4] (Blk.new' _ _ _ (by simp)) (by simp <;> omega)⟩)
  have HSL := Lib.hid (sameLn_any _ _ _ _ _ _ _ _ _ _ _ _ (((((w6.alloc (.cells #[.int .i64 1] 3)).alloc (.cells #[.int .i64 2] 3)).alloc (.cells #[.slice (some ⟨w6.heap.size + 1, 0, none⟩) 1 1] 29)).alloc (.cells #[.int .i64 3] 3)).alloc (.cells #[.int .i64 4] 3)) ((HG.out.2.2.below hbb).mono hbb.size) HL2.out ⟨by decide, by decide, by decide, by decide, by decide⟩ ⟨by decide, by decide, by decide, by decide, by decide⟩)
  rw [decide_eq_true rfl] at HSL
  have HB := Lib.hid (HG.out.2.1.trans (hbb.mono HG.out.2.1.size))
  clear HL2 HG hbb
  go_wp2_with fail
  refine HSL.out.mono ?_
  rintro e7 w7 ⟨rfl, hb7⟩
  have HB7 := Lib.hid (HB.out.trans (hb7.mono HB.out.size))
  clear HB hb7 HSL l0 l1 l2 l3
  go_upto_region 10 with fail
  have HR0 := Lib.hid (refused_any ⟨#[35, 32, 120, 10, 90, 111, 110, 101, 10, 76, 105, 110, 107]⟩ 2 5 w7 (HW.out.below HB7.out) (by decide) exR0_read (by decide))
  go_wp2_with fail
  refine HR0.out.mono ?_
  rintro e8 w8 ⟨rfl, hb8⟩
  have HB8 := Lib.hid (HB7.out.trans (hb8.mono HB7.out.size))
  clear hb8 HB7 HR0
  have HR1 := Lib.hid (refused_any ⟨#[90, 111, 110, 101, 32, 90, 32, 48, 58, 48, 48, 32, 45, 32, 71, 77, 84, 32, 49, 57, 57, 48, 10, 35, 32, 120]⟩ 1 5 w8 (HW.out.below HB8.out) (by decide) exR1_read (by decide))
  go_wp2_with fail
  refine HR1.out.mono ?_
  rintro e9 w9 ⟨rfl, hb9⟩
  have HB9 := Lib.hid (HB8.out.trans (hb9.mono HB8.out.size))
  clear hb9 HB8 HR1
  have HR2 := Lib.hid (refused_any ⟨#[90, 111, 110, 101, 100, 32, 90, 32, 48, 58, 48, 48, 32, 45, 32, 71, 77, 84]⟩ 1 8 w9 (HW.out.below HB9.out) (by decide) exR2_read (by decide))
  go_wp2_with fail
  refine HR2.out.mono ?_
  rintro e10 w10 ⟨rfl, hb10⟩
  have HB10 := Lib.hid (HB9.out.trans (hb10.mono HB9.out.size))
  clear hb10 HB9 HR2
  go_wp2_with fail
  go_ret
  exact ⟨rfl, HB10.out⟩
end Go.Proofs.YtciclddfhohieaaGreatDoor
