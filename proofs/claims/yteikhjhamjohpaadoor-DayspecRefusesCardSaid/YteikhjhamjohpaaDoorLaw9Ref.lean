/-
  DayspecRefuses: the walk.
-/
import Derived.Test.YteikhjhamjohpaaDoorLaw9RefP
set_option linter.unusedVariables false
namespace Go.Proofs.YteikhjhamjohpaaDoor
open Go.RowKit

def StrsAt (w : World) (g : Nat) (ls : List (List UInt8)) : Prop := ∀ j l, ls[j]? = some l → w.cell? ⟨g, j, none⟩ = some (.string ⟨l.toArray⟩)
theorem StrsAt.below {B : Nat} {w w' : World} {g : Nat} {ls : List (List UInt8)} (h : StrsAt w g ls) (hb : Below B w w') (hg : g < B) : StrsAt w' g ls := fun j l hl => (hb.cell hg).trans (h j l hl)
theorem strsAt_six {w : World} {g : Nat} {t : TypeId} {tm : List UInt8}
    (h : Blk w g t #[.string (⟨tm.toArray⟩ ++ ⟨#[32]⟩), .string (⟨#[32]⟩ ++ ⟨tm.toArray⟩), .string (⟨tm.toArray⟩ ++ ⟨#[61]⟩), .string (⟨tm.toArray⟩ ++ ⟨#[62, 61]⟩), .string (⟨#[108, 97, 115, 116]⟩ ++ ⟨tm.toArray⟩), .string (⟨tm.toArray⟩ ++ ⟨#[0]⟩)]) : StrsAt w g (sixL tm) := by
  simp only [ba_append] at h
  intro j l hl
  have hlt : j < 6 := (List.getElem?_eq_some_iff.1 hl).1
  rcases (by omega : j = 0 ∨ j = 1 ∨ j = 2 ∨ j = 3 ∨ j = 4 ∨ j = 5) with rfl | rfl | rfl | rfl | rfl | rfl
  all_goals (cases hl; rw [h.cell]; simp [lastB])
theorem six_len {tm l : List UInt8} (h : tm.length ≤ 10) (hl : l ∈ sixL tm) : l.length ≤ 100 := by
  simp only [sixL, List.mem_cons, List.not_mem_nil, or_false] at hl
  rcases hl with rfl | rfl | rfl | rfl | rfl | rfl
  all_goals (simp [lastB]; omega)
theorem refused_at {r : (Int × Int × Int) × Int} (h : refused r = true) : ∃ e5 : Int, (e5 = 5 ∨ e5 = 8) ∧ r = ((0, 0, 0), e5) := by
  obtain ⟨a, b⟩ := r
  simp [refused] at h
  exact ⟨b, h.2, by rw [h.1]⟩
def DaysAt (w : World) (g : Nat) (ds : List (Int × Int × Int)) : Prop := ∀ j a b c, ds[j]? = some (a, b, c) → w.cell? ⟨g, j * 3, none⟩ = some (.int .i64 a) ∧ w.cell? ⟨g, j * 3 + 1, none⟩ = some (.int .i64 b) ∧ w.cell? ⟨g, j * 3 + 2, none⟩ = some (.int .i64 c)
theorem DaysAt.below {B : Nat} {w w' : World} {g : Nat} {ds : List (Int × Int × Int)} (h : DaysAt w g ds) (hb : Below B w w') (hg : g < B) : DaysAt w' g ds := fun j a b c hl =>
  ⟨(hb.cell hg).trans (h j a b c hl).1, (hb.cell hg).trans (h j a b c hl).2.1, (hb.cell hg).trans (h j a b c hl).2.2⟩

theorem daysAt_eleven {w : World} {g : Nat} {t : TypeId} {m : Nat}
    (h : Blk w g t #[.int .i64 (5 + (m : Int)), .int .i64 0, .int .i64 0, .int .i64 (-(m : Int)), .int .i64 0, .int .i64 0, .int .i64 1, .int .i64 0, .int .i64 (32 + (m : Int)), .int .i64 1, .int .i64 0, .int .i64 (-(m : Int)), .int .i64 1, .int .i64 (1 + (m : Int)), .int .i64 1,
      .int .i64 2, .int .i64 (7 + (m : Int)), .int .i64 0, .int .i64 2, .int .i64 (-1 - (m : Int)), .int .i64 0, .int .i64 2, .int .i64 0, .int .i64 (1 + (m : Int)), .int .i64 3, .int .i64 (7 + (m : Int)), .int .i64 1, .int .i64 4, .int .i64 0, .int .i64 (32 + (m : Int)), .int .i64 4, .int .i64 0, .int .i64 (-(m : Int))]) : DaysAt w g (elevenL m) := by
  intro j a b c hl
  have hlt : j < 11 := (List.getElem?_eq_some_iff.1 hl).1
  rcases (by omega : j = 0 ∨ j = 1 ∨ j = 2 ∨ j = 3 ∨ j = 4 ∨ j = 5 ∨ j = 6 ∨ j = 7 ∨ j = 8 ∨ j = 9 ∨ j = 10) with rfl | rfl | rfl | rfl | rfl | rfl | rfl | rfl | rfl | rfl | rfl
  all_goals (cases hl; exact ⟨h.cell_ rfl, h.cell_ rfl, h.cell_ rfl⟩)

set_option maxRecDepth 100000 in
set_option maxHeartbeats 2000000 in
theorem refuses_walk (a0 a1 a2 far : Nat) (c : UInt8) (h0 : a0 < 256) (h1 : a1 < 256) (h2 : a2 < 256) (hf : far < 65536) (w : World) (hT : Tabs w) :
    Calls Tryd.prog 5 #[.agg #[.int .u8 (a0 : Int), .int .u8 (a1 : Int), .int .u8 (a2 : Int)], .int .u8 (c.toNat : Int), .int .u16 (far : Int)] w fun e w' => e = .returned (.bool true) ∧ Below w.heap.size w w' := by
  obtain ⟨r1, r2, r3⟩ := made_all a0 a1 a2
  obtain ⟨s1, s2⟩ := six_all a0 a1 a2
  have HX := Lib.hid (fun (hc : ¬ (48 ≤ c.toNat ∧ c.toNat ≤ 57)) (hk : a0 % 4 ≠ 1) => byte_bad a0 a1 a2 c hc hk)
  have HL := Lib.hid (fun hk : a0 % 4 = 1 => byte_last a0 a1 a2 hk)
  have HM := Lib.hid (fun w => made_any a0 a1 a2 h0 h1 h2 w)
  generalize madeR a0 a1 a2 = m at *
  obtain ⟨m0, m1, m2⟩ := m
  unfold dayV dayO at HM
  have HpM := Lib.hid (show printR m0 m1 m2 = (madeT (m0, m1, m2), 0) from if_pos r1)
  generalize madeT (m0, m1, m2) = tm at *
  have HS := Lib.hid s1
  clear r1 r2 r3 s1
  go_enter Tryd.func5, Tryd.ntmps5
  go_wp2_with fail
  refine (HM.out _).mono ?_
  rintro e w1 ⟨rfl, rfl⟩
  have hb0 : Below w.heap.size w ((((w.alloc (.cells #[.int .u8 (a0 : Int), .int .u8 (a1 : Int), .int .u8 (a2 : Int)] 31)).alloc (.cells #[.int .i64 m0, .int .i64 m1, .int .i64 m2] 23)).alloc (.cells #[.int .i64 m0, .int .i64 m1, .int .i64 m2] 23)).alloc (.cells #[.int .i64 m0, .int .i64 m1, .int .i64 m2] 23)) := by go_grown
  have HB0 := Lib.hid hb0
  clear hb0 HM
  go_wp2_with fail
  refine (print_any m0 m1 m2 _ (hT.below HB0.out).kinds (hT.below HB0.out).weeks).mono ?_
  rintro e w1 ⟨rfl, hb1⟩
  rw [HpM.out]
  have HB1 := Lib.hid (HB0.out.trans (hb1.mono HB0.out.size))
  clear hb1 HB0
  go_wp2_with fail
  go_loopw [51] (fun i wr => ∃ k : Nat, k ≤ 6 ∧ i = .int .i64 k ∧ StrsAt wr w1.heap.size (sixL tm) ∧ Below w.heap.size w wr ∧ w1.heap.size < wr.heap.size) (fun i _ => 6 - (intOf i).toNat)
  case atStart => exact ⟨0, by omega, rfl, strsAt_six (Blk.new' w1 _ _ rfl), HB1.out.alloc HB1.out.size _, by simp⟩
  case round =>
    obtain ⟨k, hk, rfl, hE, hb, hz⟩ := hrel
    have HE := Lib.hid hE
    have HB := Lib.hid hb
    have hsz := hb.size
    clear hE hb
    by_cases hlt : k < 6
    · obtain ⟨l, hx⟩ : ∃ x, (sixL tm)[k]? = some x := ⟨_, List.getElem?_eq_getElem (show k < (sixL tm).length from hlt)⟩
      have c0 := HE.out k l hx
      have hr := List.all_eq_true.1 HS.out l (List.mem_of_getElem? hx)
      have hl : l.length ≤ 100 := six_len s2 (List.mem_of_getElem? hx)
      have HR := Lib.hid hr
      clear hr hx
      go_wp2_with fail
      refine (parse_any ⟨l.toArray⟩ (by show l.length ≤ _; omega) _ (hT.below HB.out).weeks (hT.below HB.out).folds).mono ?_
      rintro e' w2 ⟨rfl, hb2⟩
      have HB2 := Lib.hid (HB.out.trans (hb2.mono HB.out.size))
      have HE2 := Lib.hid (HE.out.below hb2 hz)
      have hz2 : w1.heap.size < w2.heap.size := Nat.lt_of_lt_of_le hz hb2.size
      obtain ⟨e5, he5, hp5⟩ := refused_at HR.out
      have hp6 : parseR (⟨l.toArray⟩ : ByteArray).data.toList = ((0, 0, 0), e5) := hp5
      simp only [hp6]
      unfold dayV
      clear hp5 hp6 hb2 HB HE c0
      rcases he5 with rfl | rfl
      all_goals
        go_wp2_with fail
        go_roundw
        case rel => exact ⟨k + 1, by omega, by go_num, HE2.out.below (B := w2.heap.size) ((Below.refl _ _).alloc (Nat.le_refl _) _) hz2, HB2.out.alloc HB2.out.size _, by simp; omega⟩
        case measure => simp [intOf]; omega
    · obtain rfl : k = 6 := by omega
      clear HE
      have hin : Lib.BytesIn (wr.alloc (.cells #[.int .u8 (c.toNat : Int)] 5)) (some ⟨wr.heap.size, 0, none⟩) 1 [(c.toNat : Int)] := Lib.BytesIn.of_cells fun i hi => by
        obtain rfl : i = 0 := by omega
        simp [Addr.add, World.cell?_alloc_new]
      have hcv := Lib.BytesIn.convert (P := Tryd.prog) hin rfl 1 37 5 9 Tryd.underlying37 Tryd.underlying5 Tryd.underlying9
      rw [show strOfNums [(c.toNat : Int)] = ⟨#[c]⟩ by simp [strOfNums]] at hcv
      clear hin
      have HBc := Lib.hid (HB.out.alloc HB.out.size (.cells #[.int .u8 (c.toNat : Int)] 5))
      have hsc : (⟨tm.toArray⟩ ++ ⟨#[c]⟩ : ByteArray).size ≤ 1048576 := by rw [ba_append]; show (tm.toArray ++ #[c]).size ≤ _; simp; omega
      have hdc : (⟨tm.toArray⟩ ++ ⟨#[c]⟩ : ByteArray).data.toList = tm ++ [c] := by rw [ba_append]; simp
      have HD := Lib.hid (And.intro hsc hdc)
      clear hsc hdc
      go_wp2_with fail
      refine (parse_any _ HD.out.1 _ (hT.below HBc.out).weeks (hT.below HBc.out).folds).mono ?_
      rintro e' w2 ⟨rfl, hb2⟩
      rw [HD.out.2]
      have HB2 := Lib.hid (HBc.out.trans (hb2.mono HBc.out.size))
      clear hb2 hcv HBc HB HD
      have HR0 := Lib.hid (parseR_err (tm ++ [c]))
      generalize parseR (tm ++ [c]) = R at *
      obtain ⟨⟨x, y, z⟩, r⟩ := R
      unfold dayV
      have hcase : ((r == 0) = true ∧ (r != 0) = false ∧ (48 ≤ c.toNat ∧ c.toNat ≤ 57)) ∨ ((r == 0) = true ∧ (r != 0) = false ∧ (¬ (48 ≤ c.toNat ∧ c.toNat ≤ 57)) ∧ Lib.hasPrefix tm lastB = true) ∨ ((r == 0) = false ∧ (r != 0) = true ∧ x = 0 ∧ y = 0 ∧ z = 0) := by
        by_cases hr : r = 0
        · subst hr
          by_cases hc : 48 ≤ c.toNat ∧ c.toNat ≤ 57
          · exact .inl ⟨rfl, rfl, hc⟩
          · refine .inr (.inl ⟨rfl, rfl, hc, HL.out ?_⟩)
            apply Classical.byContradiction
            intro hk
            exact HX.out hc hk rfl
        · have := HR0.out hr
          simp only [Prod.mk.injEq] at this
          exact .inr (.inr ⟨beq_eq_false_iff_ne.2 hr, bne_iff_ne.2 hr, this.1, this.2.1, this.2.2⟩)
      have hz2 := HB2.out.size
      go_upto_region 13 with fail
      go_cut [104] (fun s wx => s = .bool false ∧ Below w.heap.size w wx)
      case first =>
        rcases hcase with ⟨e1, e2, e3, e4⟩ | ⟨e1, e2, e3, e4⟩ | ⟨e1, e2, rfl, rfl, rfl⟩
        · have e5 : ¬ ((c.toNat : Int) < 48) := by omega
          have e6 : ¬ (57 < (c.toNat : Int)) := by omega
          go_wp2_with fail
          go_meet
          exact ⟨rfl, HB2.out.alloc HB2.out.size _⟩
        · have HE4 := Lib.hid e4
          clear e4
          by_cases e5 : (c.toNat : Int) < 48
          · go_wp2_with fail
            refine (prefix_any _ _ _).mono ?_
            rintro e w3 ⟨rfl, rfl⟩
            rw [show Lib.hasPrefix (⟨tm.toArray⟩ : ByteArray).data.toList (⟨#[108, 97, 115, 116]⟩ : ByteArray).data.toList = true from HE4.out]
            go_wp2_with fail
            go_meet
            exact ⟨rfl, HB2.out.alloc HB2.out.size _⟩
          · have e6 : 57 < (c.toNat : Int) := by omega
            go_wp2_with fail
            refine (prefix_any _ _ _).mono ?_
            rintro e w3 ⟨rfl, rfl⟩
            rw [show Lib.hasPrefix (⟨tm.toArray⟩ : ByteArray).data.toList (⟨#[108, 97, 115, 116]⟩ : ByteArray).data.toList = true from HE4.out]
            go_wp2_with fail
            go_meet
            exact ⟨rfl, HB2.out.alloc HB2.out.size _⟩
        · go_wp2_with fail
          go_meet
          exact ⟨rfl, HB2.out.alloc HB2.out.size _⟩
      case rest =>
        obtain ⟨rfl, hB3⟩ := hcut
        have HB3 := Lib.hid hB3
        clear hB3 hcase HB2 HR0 HX HL HS HB1
        have hm1 : (far : Int) ≤ 65535 := by omega
        go_wp2_with fail
        go_loopw [140] (fun i wr => ∃ k : Nat, k ≤ 11 ∧ i = .int .i64 k ∧ DaysAt wr wc.heap.size (elevenL far) ∧ Below w.heap.size w wr ∧ wc.heap.size < wr.heap.size) (fun i _ => 11 - (intOf i).toNat)
        case atStart => exact ⟨0, by omega, rfl, daysAt_eleven (Blk.new' wc _ _ rfl), HB3.out.alloc HB3.out.size _, by simp⟩
        case round =>
          obtain ⟨k, hk, rfl, hE, hb, hz⟩ := hrel
          have HE := Lib.hid hE
          have HB := Lib.hid hb
          have hsz := hb.size
          clear hE hb
          by_cases hlt : k < 11
          · obtain ⟨⟨x, y, z⟩, hx⟩ : ∃ x, (elevenL far)[k]? = some x := ⟨_, List.getElem?_eq_getElem (show k < (elevenL far).length from hlt)⟩
            obtain ⟨c0, c1, c2⟩ := HE.out k x y z hx
            have HR := Lib.hid (eleven_bad far _ (List.mem_of_getElem? hx))
            clear hx
            go_wp2_with fail
            refine (print_any x y z _ ((hT.below HB.out).kinds.below ((Below.refl _ _).alloc (Nat.le_refl _) _)) ((hT.below HB.out).weeks.below ((Below.refl _ _).alloc (Nat.le_refl _) _))).mono ?_
            rintro e' w3 ⟨rfl, hb3⟩
            rw [show printR x y z = ([], 2) from HR.out]
            have HB4 := Lib.hid ((HB.out.alloc HB.out.size (.cells #[.int .i64 x, .int .i64 y, .int .i64 z] 23)).trans (hb3.mono (HB.out.alloc HB.out.size _).size))
            have HE4 := Lib.hid ((HE.out.below (B := wr.heap.size) ((Below.refl _ _).alloc (Nat.le_refl _) (.cells #[.int .i64 x, .int .i64 y, .int .i64 z] 23)) hz).below hb3 (by simp; omega))
            have hz4 : wc.heap.size < w3.heap.size := Nat.lt_of_lt_of_le (by simp; omega) hb3.size
            clear hb3 HE HB c0 c1 c2
            go_wp2_with fail
            go_roundw
            case rel => exact ⟨k + 1, by omega, by go_num, HE4.out, HB4.out, hz4⟩
            case measure => simp [intOf]; omega
          · obtain rfl : k = 11 := by omega
            clear HE
            go_wp2_with fail
            refine (works_any _ (hT.below HB.out)).mono ?_
            rintro e' w3 ⟨rfl, hb3⟩
            have HB4 := Lib.hid (HB.out.trans (hb3.mono HB.out.size))
            clear hb3
            go_wp2_with fail
            go_ret
            exact ⟨rfl, HB4.out⟩
end Go.Proofs.YteikhjhamjohpaaDoor
