/-
  DayspecWords: the walk.
-/
import Derived.Test.YteikhjhamjohpaaDoorLaw9WordsP
import Derived.Test.YteikhjhamjohpaaDoorRef8
import Derived.Deep.DeepCutAuto
import Derived.Deep.CutBlock
set_option linter.unusedVariables false
namespace Go.Proofs.YteikhjhamjohpaaDoor
open Go.RowKit

theorem word_at (k : Nat) (h : k < 7) : ∃ wd lt, weekL[k]? = some wd ∧ leastL[k]? = some lt ∧ 1 ≤ lt ∧ lt ≤ 2 ∧ 6 ≤ wd.length ∧ wd.length ≤ 9 := by
  rcases (by omega : k = 0 ∨ k = 1 ∨ k = 2 ∨ k = 3 ∨ k = 4 ∨ k = 5 ∨ k = 6) with rfl | rfl | rfl | rfl | rfl | rfl | rfl
  all_goals exact ⟨_, _, rfl, rfl, by decide, by decide, by decide, by decide⟩
def mixL (m : Nat) (l : List UInt8) (i : Nat) : List UInt8 := (maskL m l).take i ++ l.drop i
theorem mixL_len (m : Nat) (l : List UInt8) (i : Nat) (h : i ≤ l.length) : (mixL m l i).length = l.length := by simp [mixL, maskL]; omega
theorem mixL_at (m : Nat) (l : List UInt8) (i : Nat) (h : i < l.length) : (mixL m l i)[i]? = some l[i] := by
  rw [mixL, List.getElem?_append_right (by simp [maskL]; omega)]
  simp [maskL, Nat.min_eq_left (Nat.le_of_lt h)]
theorem mixL_step (m : Nat) (l : List UInt8) (i : Nat) (h : i < l.length) : (mixL m l i).set i (maskB m i l[i]) = mixL m l (i + 1) := by
  have hm : i < (maskL m l).length := by simp [maskL, h]
  have e : ((maskL m l).take i).length = i := by simp [maskL]; omega
  have hx : (maskL m l)[i] = maskB m i l[i] := by simp [maskL]
  rw [mixL, mixL, List.set_append_right _ _ (by omega), e, Nat.sub_self, List.take_succ_eq_append_getElem hm, hx, List.append_assoc]
  congr 1
  rw [List.drop_eq_getElem_cons h]
  rfl
theorem mixL_full (m : Nat) (l : List UInt8) : mixL m l l.length = maskL m l := by
  rw [mixL, List.take_of_length_le (by simp [maskL]), List.drop_length, List.append_nil]
theorem and1 : ∀ n : Fin 256, bits .and .u8 ((n.val : Nat) : Int) 1 = ((n.val % 2 : Nat) : Int) := by decide +kernel
theorem bit_eq (m j : Nat) (hm : m < 256) : (bits .and .u8 ((m : Int) / 2 ^ (j % 8)) 1 == 1) = decide (m / 2 ^ (j % 8) % 2 = 1) := by
  have h1 : (m : Int) / 2 ^ (j % 8) = ((m / 2 ^ (j % 8) : Nat) : Int) := by push_cast; rfl
  have h2 : m / 2 ^ (j % 8) < 256 := Nat.lt_of_le_of_lt (Nat.div_le_self _ _) hm
  rw [h1, and1 ⟨_, h2⟩, Bool.eq_iff_iff]
  simp
  omega
theorem Row8.below {B : Nat} {w w' : World} {g : Nat} {xs : List Int} (h : Row8 w g xs) (hb : Below B w w') (hg : g < B) : Row8 w' g xs := fun i hi => ⟨(hb.cell (p := ⟨g, i, none⟩) hg).trans (h i hi).1, (hb.frozen (p := ⟨g, i, none⟩) hg).trans (h i hi).2⟩
theorem set_same {l : List Int} {j : Nat} {x : Int} (h : l[j]? = some x) : l.set j x = l := by
  apply List.ext_getElem?
  intro i
  rw [List.getElem?_set]
  split
  · rename_i e
    subst e
    rw [h, if_pos (List.getElem?_eq_some_iff.1 h).1]
  · rfl
def zsL (l : List UInt8) : List Int := l.map fun c => (c.toNat : Int)
def strT (kk : Nat) (tw dl : List UInt8) : List UInt8 := if kk = 1 then lastB ++ tw else if kk = 3 then tw ++ 60 :: 61 :: dl else tw ++ 62 :: 61 :: dl
theorem strT_len (kk : Nat) (tw dl : List UInt8) (h1 : tw.length ≤ 9) (h2 : dl.length ≤ 2) : (strT kk tw dl).length ≤ 13 := by
  unfold strT
  split
  · simp [lastB]; omega
  · split <;> (simp; omega)
theorem strT_ascii (kk : Nat) (tw dl : List UInt8) (hl : ∀ c ∈ tw, kindB c = true) (hd : ∀ c ∈ dl, c.toNat < 97) : ∀ c ∈ strT kk tw dl, c.toNat < 128 := by
  have h1 : ∀ c ∈ tw, c.toNat < 128 := fun c hc => by
    have := hl c hc
    simp [kindB] at this
    omega
  have h2 : ∀ c ∈ dl, c.toNat < 128 := fun c hc => by have := hd c hc; omega
  have h3 : ∀ c ∈ lastB, c.toNat < 128 := by decide
  intro c hc
  unfold strT at hc
  split at hc
  · rcases List.mem_append.1 hc with h | h
    · exact h3 c h
    · exact h1 c h
  · split at hc
    all_goals
      rcases List.mem_append.1 hc with h | h
      · exact h1 c h
      · simp only [List.mem_cons] at h
        rcases h with rfl | rfl | h
        · decide
        · decide
        · exact h2 c h
theorem strT_parse (kk k D : Nat) (tw dl : List UInt8) (m : Nat) (hk : 1 ≤ kk ∧ kk ≤ 3) (hw : weekR tw = ((k : Int), 0)) (hl : ∀ c ∈ tw, kindB c = true) (hn : numR dl = if D = 0 then (0, 5) else ((D : Int), 0)) (hd : ∀ c ∈ dl, c.toNat < 97) (h0 : kk = 1 → D = 0) (h1 : kk ≠ 1 → 1 ≤ D) :
    parseR (maskL m (strT kk tw dl)) = ((1 + (kk : Int), (k : Int), (D : Int)), 0) := by
  rcases (by omega : kk = 1 ∨ kk = 2 ∨ kk = 3) with rfl | rfl | rfl
  · rw [strT, if_pos rfl, parse_masked_last m tw hl, hw, h0 rfl]; rfl
  · rw [strT, if_neg (by decide), if_neg (by decide), parse_masked m tw dl 62 hl (.inr rfl) hd, hw, hn, show (if D = 0 then ((0 : Int), (5 : Int)) else ((D : Int), 0)) = ((D : Int), 0) from if_neg (by have := h1 (by decide); omega)]; rfl
  · rw [strT, if_neg (by decide), if_pos rfl, parse_masked m tw dl 60 hl (.inl rfl) hd, hw, hn, show (if D = 0 then ((0 : Int), (5 : Int)) else ((D : Int), 0)) = ((D : Int), 0) from if_neg (by have := h1 (by decide); omega)]; rfl
theorem trim_fin : ∀ d : Fin 32, Lib.trimPrefix (Lib.trimPrefix [48, UInt8.ofNat (48 + d.val / 10), UInt8.ofNat (48 + d.val % 10)] [48]) [48] = Lib.decDigits d.val := by decide +kernel
theorem trimp_any (s p : ByteArray) (w : World) : Calls Tryd.prog 15 #[.string s, .string p] w fun e w' => e = .returned (.string ⟨(Lib.trimPrefix s.data.toList p.data.toList).toArray⟩) ∧ w' = w := Any.strings_TrimPrefix Tryd.lays101 s p w
theorem conv_two (W : World) (x y : Nat) (hx : x < 256) (hy : y < 256) :
    (convert 37 9 (.slice (some ⟨W.heap.size, 0, none⟩) 2 2)).run Tryd.prog (W.alloc (.cells #[.int .u8 (x : Int), .int .u8 (y : Int)] 5)) = .ok (.string ⟨#[UInt8.ofNat x, UInt8.ofNat y]⟩) (W.alloc (.cells #[.int .u8 (x : Int), .int .u8 (y : Int)] 5)) := by
  have b : Blk (W.alloc (.cells #[.int .u8 (x : Int), .int .u8 (y : Int)] 5)) W.heap.size 5 #[.int .u8 (x : Int), .int .u8 (y : Int)] := Blk.new' W _ _ rfl
  have hin : Lib.BytesIn (W.alloc (.cells #[.int .u8 (x : Int), .int .u8 (y : Int)] 5)) (some ⟨W.heap.size, 0, none⟩) 2 [(x : Int), (y : Int)] := Lib.BytesIn.of_cells fun i hi => by
    rcases (by omega : i = 0 ∨ i = 1) with rfl | rfl
    · exact b.cell_ rfl
    · exact b.cell_ rfl
  have := Lib.BytesIn.convert (P := Tryd.prog) hin rfl 2 37 5 9 Tryd.underlying37 Tryd.underlying5 Tryd.underlying9
  rw [this]
  simp [strOfNums]

set_option maxRecDepth 100000 in
set_option maxHeartbeats 2000000 in
theorem words_walk (a0 a1 a2 a3 a4 : UInt8) (w : World) (hT : Tabs w) :
    Calls Tryd.prog 6 #[.int .u8 (a0.toNat : Int), .int .u8 (a1.toNat : Int), .int .u8 (a2.toNat : Int), .int .u8 (a3.toNat : Int), .int .u8 (a4.toNat : Int)] w fun e w' => e = .returned (.bool true) ∧ Below w.heap.size w w' := by
  obtain ⟨k, hk⟩ : ∃ k, k = a0.toNat % 7 := ⟨_, rfl⟩
  have hk7 : k < 7 := by omega
  have q0 : (a0.toNat : Int) % 7 = (k : Int) := by omega
  have i0 : (0 : Int) ≤ (k : Int) := by omega
  have i1 : (k : Int) < 7 := by omega
  obtain ⟨wd, lt, hwd, hlt, l1, l2, wl1, wl2⟩ := word_at k hk7
  have HW := Lib.hid hwd
  have HL := Lib.hid hlt
  have b1 := a1.toNat_lt
  have b2 := a2.toNat_lt
  have b3 := a3.toNat_lt
  have b4 := a4.toNat_lt
  clear hk hwd hlt
  go_enter Tryd.func6, Tryd.ntmps6
  go_upto_region 2 with fail
  go_cut [12] (fun s12 wx => s12 = .string ⟨wd.toArray⟩ ∧ Below w.heap.size w wx)
  case first =>
    have HW := HW.out
    rcases (by omega : k = 0 ∨ k = 1 ∨ k = 2 ∨ k = 3 ∨ k = 4 ∨ k = 5 ∨ k = 6) with rfl | rfl | rfl | rfl | rfl | rfl | rfl
    all_goals
      cases HW
      go_wp2_with fail
      go_meet
      exact ⟨rfl, by go_grown⟩
  case rest =>
    obtain ⟨rfl, hB⟩ := hcut
    have HB := Lib.hid hB
    clear hB
    go_upto_region 3 with fail
    go_cut [13] (fun s13 wx => s13 = .int .i64 (lt : Int) ∧ Below w.heap.size w wx)
    case first =>
      have HL := HL.out
      rcases (by omega : k = 0 ∨ k = 1 ∨ k = 2 ∨ k = 3 ∨ k = 4 ∨ k = 5 ∨ k = 6) with rfl | rfl | rfl | rfl | rfl | rfl | rfl
      all_goals
        cases HL
        go_wp2_with fail
        go_meet
        exact ⟨rfl, HB.out.alloc HB.out.size _⟩
    case rest =>
      obtain ⟨rfl, hB⟩ := hcut
      clear HB
      have HB := Lib.hid hB
      clear hB
      obtain ⟨m0, hm0⟩ : ∃ m0, m0 = a1.toNat % (wd.length - lt + 1) := ⟨_, rfl⟩
      have hm := Nat.mod_lt a1.toNat (show 0 < wd.length - lt + 1 by omega)
      have hm9 : m0 ≤ wd.length - lt := by omega
      have qm : (a1.toNat : Int) % ((wd.length : Int) - (lt : Int) + 1) = (m0 : Int) := by
        rw [hm0, show (wd.length : Int) - (lt : Int) + 1 = ((wd.length - lt + 1 : Nat) : Int) by omega]; rfl
      have qs1 : (0 : Int) ≤ (lt : Int) + (m0 : Int) := by omega
      have qs2 : (lt : Int) + (m0 : Int) ≤ (wd.length : Int) := by omega
      have HX := Lib.hid (show (⟨wd.toArray⟩ : ByteArray).extract 0 (lt + m0) = ⟨(wd.take (lt + m0)).toArray⟩ by apply ByteArray.ext; simp [ByteArray.data_extract])
      clear hm hm0
      go_upto_region 4 with fail
      go_cut [12] (fun s12 wx => s12 = .string ⟨(wd.take (lt + m0)).toArray⟩ ∧ Below w.heap.size w wx)
      case first =>
        go_wp2_with fail
        all_goals (try (exfalso; omega))
        all_goals
          go_meet
          exact ⟨by rw [← HX.out], HB.out⟩
      case rest =>
        obtain ⟨rfl, hB⟩ := hcut
        clear HB
        have HB := Lib.hid hB
        clear hB
        have hn1 : lt ≤ lt + m0 := by omega
        have hn2 : lt + m0 ≤ wd.length := by omega
        obtain ⟨tw, htw⟩ : ∃ tw, tw = wd.take (lt + m0) := ⟨_, rfl⟩
        have htl : tw.length ≤ 9 := by rw [htw, List.length_take]; omega
        have htl1 : 1 ≤ tw.length := by rw [htw, List.length_take]; omega
        have HWR := Lib.hid (show weekR tw = ((k : Int), 0) by
          have := cut_fin ⟨k, hk7⟩ ⟨lt + m0, by omega⟩ (by simp only [HL.out]; exact hn1) (by simp only [HW.out]; exact hn2)
          simp only [HW.out] at this
          rw [htw]; exact this)
        have HKB := Lib.hid (show ∀ c ∈ tw, kindB c = true from fun c hc => by
          have := week_low ⟨k, hk7⟩ c
          simp only [HW.out] at this
          exact this (by rw [htw] at hc; exact List.mem_of_mem_take hc))
        have HT1 := Lib.hid (show tw.take 1 = wd.take 1 by rw [htw, List.take_take, Nat.min_eq_left (by omega)])
        rw [← htw]
        clear htw HX qm qs1 qs2 hn1 hn2 hm9
        obtain ⟨kk, hkk⟩ : ∃ kk, kk = 1 + a4.toNat % 3 := ⟨_, rfl⟩
        have hk3 : 1 ≤ kk ∧ kk ≤ 3 := by omega
        have qk : 1 + (a4.toNat : Int) % 3 = (kk : Int) := by omega
        have q256 : IntKind.u8.wrap (k : Int) = (k : Int) := by rw [IntKind.wrap_u8]; omega
        obtain ⟨D, hD⟩ : ∃ D : Nat, D = if kk = 1 then 0 else 1 + a3.toNat % 31 := ⟨_, rfl⟩
        have hD31 : D ≤ 31 := by rw [hD]; split <;> omega
        have hD1 : kk ≠ 1 → 1 ≤ D := by intro h; rw [hD, if_neg h]; omega
        have hD0 : kk = 1 → D = 0 := by intro h; rw [hD, if_pos h]
        have HM := Lib.hid (show madeR kk k a3.toNat = (1 + (kk : Int), (k : Int), (D : Int)) by
          simp only [madeR]
          rw [Nat.mod_eq_of_lt (show kk < 4 by omega), Nat.mod_eq_of_lt hk7, if_neg (by omega), hD]
          split <;> simp)
        have HMade := Lib.hid (fun w => made_any kk k a3.toNat (by omega) (by omega) (by omega) w)
        rw [HM.out] at HMade
        unfold dayV dayO at HMade
        simp only at HMade
        clear hkk hD HM
        go_wp2_with fail
        refine (HMade.out _).mono ?_
        rintro e w1 ⟨rfl, rfl⟩
        go_upto_region 6 with fail
        obtain ⟨W1, hW1⟩ : ∃ W1, W1 = ((wc.alloc (.cells #[.int .i64 (1 + (kk : Int)), .int .i64 (k : Int), .int .i64 (D : Int)] 23)).alloc (.cells #[.int .i64 (1 + (kk : Int)), .int .i64 (k : Int), .int .i64 (D : Int)] 23)).alloc (.cells #[.int .i64 (1 + (kk : Int)), .int .i64 (k : Int), .int .i64 (D : Int)] 23) := ⟨_, rfl⟩
        rw [← hW1]
        have bd : Blk W1 (wc.heap.size + 1 + 1) 23 #[.int .i64 (1 + (kk : Int)), .int .i64 (k : Int), .int .i64 (D : Int)] := by rw [hW1]; exact Blk.new' _ _ _ (by simp)
        have HB1 := Lib.hid (show Below w.heap.size w W1 by
          have hB := HB.out
          have hz := hB.size
          rw [hW1]; go_grown)
        have HBD := Lib.hid bd
        obtain ⟨c0, c1, c2, _, _, _⟩ := bd.three
        have hzg := bd.lt
        clear bd hW1 HB HMade
        generalize wc.heap.size + 1 + 1 = g at *
        obtain ⟨e1, he1⟩ : ∃ e1, e1 = D / 10 := ⟨_, rfl⟩
        obtain ⟨e2, he2⟩ : ∃ e2, e2 = D % 10 := ⟨_, rfl⟩
        have qe1 : (D : Int) / 10 = (e1 : Int) := by omega
        have qe2 : (D : Int) % 10 = (e2 : Int) := by omega
        have he13 : e1 ≤ 3 := by omega
        have he29 : e2 ≤ 9 := by omega
        have HTR := Lib.hid (show Lib.trimPrefix (Lib.trimPrefix [48, UInt8.ofNat (48 + e1), UInt8.ofNat (48 + e2)] [48]) [48] = Lib.decDigits D by
          rw [he1, he2]; exact trim_fin ⟨D, by omega⟩)
        have hcv : ∀ W : World, (convert 37 9 (.slice (some ⟨W.heap.size, 0, none⟩) 2 2)).run Tryd.prog (W.alloc (.cells #[.int .u8 (48 + (e1 : Int)), .int .u8 (48 + (e2 : Int))] 5)) = .ok (.string ⟨#[UInt8.ofNat (48 + e1), UInt8.ofNat (48 + e2)]⟩) (W.alloc (.cells #[.int .u8 (48 + (e1 : Int)), .int .u8 (48 + (e2 : Int))] 5)) := fun W => by
          have := conv_two W (48 + e1) (48 + e2) (by omega) (by omega)
          rw [show ((48 + e1 : Nat) : Int) = 48 + (e1 : Int) by omega, show ((48 + e2 : Nat) : Int) = 48 + (e2 : Int) by omega] at this
          exact this
        obtain ⟨x1, hx1⟩ : ∃ x1 : UInt8, x1 = UInt8.ofNat (48 + e1) := ⟨_, rfl⟩
        obtain ⟨x2, hx2⟩ : ∃ x2 : UInt8, x2 = UInt8.ofNat (48 + e2) := ⟨_, rfl⟩
        rw [← hx1, ← hx2] at hcv HTR
        clear he1 he2 hx1 hx2
        go_cut [15] (fun s15 wx => s15 = .string ⟨(Lib.trimPrefix [48, x1, x2] [48]).toArray⟩ ∧ Below w.heap.size w wx ∧ Blk wx g 23 #[.int .i64 (1 + (kk : Int)), .int .i64 (k : Int), .int .i64 (D : Int)])
        case first =>
          go_wp2_with fail
          refine (trimp_any _ _ _).mono ?_
          rintro e w2 ⟨rfl, rfl⟩
          go_wp2_with fail
          go_meet
          exact ⟨rfl, HB1.out.alloc HB1.out.size _, HBD.out.alloc _⟩
        case rest =>
          obtain ⟨rfl, hB, hD2⟩ := hcut
          have HB2 := Lib.hid hB
          have HBD2 := Lib.hid hD2
          clear hB hD2 hcv HB1 HBD c0 c1 c2
          go_upto_region 7 with fail
          go_cut [15] (fun s15 wx => s15 = .string ⟨(Lib.decDigits D).toArray⟩ ∧ Below w.heap.size w wx ∧ Blk wx g 23 #[.int .i64 (1 + (kk : Int)), .int .i64 (k : Int), .int .i64 (D : Int)])
          case first =>
            go_wp2_with fail
            refine (trimp_any _ _ _).mono ?_
            rintro e w2 ⟨rfl, rfl⟩
            go_wp2_with fail
            go_meet
            exact ⟨by rw [← HTR.out], HB2.out, HBD2.out⟩
          case rest =>
            obtain ⟨rfl, hB, hD2⟩ := hcut
            clear HB2 HBD2 HTR
            have HB2 := Lib.hid hB
            have HBD2 := Lib.hid hD2
            have hdl := digits_len (D : Int) (by omega) (by omega)
            rw [Int.toNat_natCast] at hdl
            have HNum := Lib.hid (And.intro (num_fin ⟨D, by omega⟩) (dig_fin ⟨D, by omega⟩))
            simp only at HNum
            obtain ⟨c0, c1, c2, _, _, _⟩ := hD2.three
            generalize Lib.decDigits D = dl at *
            clear hB hD2
            go_upto_region 8 with fail
            go_cut [16] (fun s16 wx => s16 = .string ⟨(tw ++ 62 :: 61 :: dl).toArray⟩ ∧ wc = wx)
            case first =>
              go_wp2_with fail
              go_meet
              exact ⟨by simp [ba_append], rfl⟩
            case rest =>
              obtain ⟨rfl, rfl⟩ := hcut
              go_upto_block 0 with (fail)
              go_cut [16] (fun s16 wx => s16 = .string ⟨(strT kk tw dl).toArray⟩ ∧ wc = wx)
              case first =>
                rcases (by omega : kk = 1 ∨ kk = 2 ∨ kk = 3) with rfl | rfl | rfl
                all_goals
                  go_wp2_with fail
                  go_meet
                  exact ⟨by simp [strT, lastB, ba_append], rfl⟩
              case rest =>
                obtain ⟨rfl, rfl⟩ := hcut
                have HPar := Lib.hid (fun m => strT_parse kk k D tw dl m hk3 HWR.out HKB.out HNum.out.1 HNum.out.2 hD0 hD1)
                have hsl := strT_len kk tw dl htl hdl
                have HAs := Lib.hid (strT_ascii kk tw dl HKB.out HNum.out.2)
                generalize strT kk tw dl = sT at *
                obtain ⟨s, hs⟩ : ∃ s : ByteArray, s = ⟨sT.toArray⟩ := ⟨_, rfl⟩
                have hsz : s.size = sT.length := by rw [hs]; rfl
                have HZS := Lib.hid (show zs s = zsL sT by rw [hs]; rfl)
                have hs13 : s.size ≤ 13 := by omega
                rw [← hs]
                have HS := Lib.hid (And.intro hs hsz)
                clear hs hsz
                have hcv := run_bytes_of_string (P := Tryd.prog) wc 9 37 5 s Tryd.underlying9 Tryd.underlying37 Tryd.underlying5
                go_wp2_with fail
                clear hcv
                have hst := Lib.hid (row8_start wc s (grownCap wc s.size 0 5) 5)
                have hbl : Below w.heap.size w (wc.alloc (.cells (bytesRow s (grownCap wc s.size 0 5)) 5 ((bytesRow s (grownCap wc s.size 0 5)).size, (bytesRow s (grownCap wc s.size 0 5)).size + 1))).drew := (HB2.out.alloc HB2.out.size _).drew
                have HBL := Lib.hid hbl
                have HD0 := Lib.hid (show Blk (wc.alloc (.cells (bytesRow s (grownCap wc s.size 0 5)) 5 ((bytesRow s (grownCap wc s.size 0 5)).size, (bytesRow s (grownCap wc s.size 0 5)).size + 1))).drew g _ _ from (HBD2.out.alloc _).drew)
                have hgl := HBD2.out.lt
                have hzz : (wc.alloc (.cells (bytesRow s (grownCap wc s.size 0 5)) 5 ((bytesRow s (grownCap wc s.size 0 5)).size, (bytesRow s (grownCap wc s.size 0 5)).size + 1))).drew.heap.size = wc.heap.size + 1 := by simp
                have hzz2 : wc.heap.size < (wc.alloc (.cells (bytesRow s (grownCap wc s.size 0 5)) 5 ((bytesRow s (grownCap wc s.size 0 5)).size, (bytesRow s (grownCap wc s.size 0 5)).size + 1))).drew.heap.size := by rw [hzz]; omega
                clear hbl hzz
                generalize (wc.alloc (.cells (bytesRow s (grownCap wc s.size 0 5)) 5 ((bytesRow s (grownCap wc s.size 0 5)).size, (bytesRow s (grownCap wc s.size 0 5)).size + 1))).drew = W0 at *
                have hcap := grownCap_ge wc s.size 0 5
                generalize grownCap wc s.size 0 5 = cap at *
                go_loopw [89] (fun i wr => ∃ j : Nat, j ≤ s.size ∧ i = .int .i64 j ∧ Row8 wr wc.heap.size (zsL (mixL a2.toNat sT j)) ∧ Below w.heap.size w wr ∧ Blk wr g 23 #[.int .i64 (1 + (kk : Int)), .int .i64 (k : Int), .int .i64 (D : Int)] ∧ wc.heap.size < wr.heap.size) (fun i _ => s.size - (intOf i).toNat)
                case atStart => exact ⟨0, Nat.zero_le _, rfl, by rw [show zsL (mixL a2.toNat sT 0) = zs s by rw [HZS.out]; simp [mixL]]; exact hst.out, HBL.out, HD0.out, hzz2⟩
                case round =>
                  obtain ⟨j, hj, rfl, hR, hb, hD3, hz3⟩ := hrel
                  have HR := Lib.hid hR
                  have HB3 := Lib.hid hb
                  have HD3 := Lib.hid hD3
                  clear hR hb hD3 hst HBL HD0
                  by_cases hlt : j < s.size
                  · have hjl : j < sT.length := by have := HS.out.2; omega
                    obtain ⟨c, hc⟩ : ∃ c : UInt8, sT[j]? = some c := ⟨_, List.getElem?_eq_getElem hjl⟩
                    have hce : sT[j] = c := by rw [List.getElem?_eq_getElem hjl] at hc; exact Option.some.inj hc
                    have hasc := HAs.out c (List.mem_of_getElem? hc)
                    have hjz : j < (zsL (mixL a2.toNat sT j)).length := by simp [zsL, mixL_len _ _ _ (Nat.le_of_lt hjl)]; exact hjl
                    have hrow := HR.out j hjz
                    have hget : (zsL (mixL a2.toNat sT j)).getD j 0 = (c.toNat : Int) := by
                      simp [zsL, List.getD, mixL_at _ _ _ hjl, hce]
                    have HGet := Lib.hid (show (zsL (mixL a2.toNat sT j))[j]? = some (c.toNat : Int) by simp [zsL, mixL_at _ _ _ hjl, hce])
                    rw [hget] at hrow
                    obtain ⟨rc, rf⟩ := hrow
                    have HStep := Lib.hid (show zsL (mixL a2.toNat sT (j + 1)) = (zsL (mixL a2.toNat sT j)).set j ((maskB a2.toNat j c).toNat : Int) by
                      rw [← mixL_step _ _ _ hjl, hce, zsL, zsL, List.map_set])
                    have hd : decide ((j : Int) < (s.size : Int)) = true := by simp; omega
                    have hcapj : ¬ cap = j := by omega
                    have hc1 : (0 : Int) ≤ (j : Int) + 1 ∧ (j : Int) + 1 ≤ (cap : Int) := by omega
                    have hbit := bit_eq a2.toNat j (by omega)
                    clear hc hce hget hjz
                    by_cases hm : a2.toNat / 2 ^ (j % 8) % 2 = 1
                    · rw [decide_eq_true hm] at hbit
                      have HMB := Lib.hid (show maskB a2.toNat j c = Lib.upperB c from if_pos hm)
                      have hin : Lib.BytesIn wr (some ⟨wc.heap.size, j, none⟩) 1 [(c.toNat : Int)] := Lib.BytesIn.of_cells fun i hi => by
                        obtain rfl : i = 0 := by omega
                        simpa [Addr.add] using rc
                      have hcv : ∀ cc : Nat, _ := fun cc => Lib.BytesIn.convert (P := Tryd.prog) hin rfl cc 37 5 9 Tryd.underlying37 Tryd.underlying5 Tryd.underlying9
                      rw [show strOfNums [(c.toNat : Int)] = ⟨#[c]⟩ by simp [strOfNums]] at hcv
                      clear hin hm
                      go_wp2_with fail
                      refine (upper_one c hasc wc.heap.size j _ _ rc).mono ?_
                      rintro e w3 ⟨rfl, hb3, rc3⟩
                      have HR3 := Lib.hid (HR.out.below hb3 hz3)
                      have rf3 := (hb3.frozen (p := ⟨wc.heap.size, j, none⟩) hz3).trans rf
                      have HB4 := Lib.hid (HB3.out.trans (hb3.mono HB3.out.size))
                      have HD4 := Lib.hid (HD3.out.below hb3 HD3.out.lt)
                      have hz4 : wc.heap.size < w3.heap.size := Nat.lt_of_lt_of_le hz3 hb3.size
                      have g0 : ∀ h, ((⟨#[Lib.upperB c]⟩ : ByteArray)[0]'h).toNat = (Lib.upperB c).toNat := fun _ => rfl
                      clear hb3 hcv rc rf HR HB3 HD3
                      have hne : g ≠ wc.heap.size := by omega
                      go_wp2_with fail
                      refine ⟨⟨j + 1, by omega, by go_num, ?_, HB4.out.setCell HB2.out.size _, HD4.out.far (by simpa using hne) _, by simp; omega⟩, by simp [intOf]; omega⟩
                      rw [HStep.out, HMB.out]
                      exact Row8.set HR3.out j (by simp [zsL, mixL_len _ _ _ (Nat.le_of_lt hjl)]; exact hjl) _
                    · rw [decide_eq_false hm] at hbit
                      have HMB := Lib.hid (show maskB a2.toNat j c = c from if_neg hm)
                      clear hm
                      go_wp2_with fail
                      refine ⟨⟨j + 1, by omega, by go_num, ?_, HB3.out, HD3.out, hz3⟩, by simp [intOf]; omega⟩
                      rw [HStep.out, HMB.out, set_same HGet.out]
                      exact HR.out
                  · obtain rfl : j = s.size := by omega
                    have hd : decide ((s.size : Int) < (s.size : Int)) = false := by simp
                    have HM := Lib.hid (show mixL a2.toNat sT s.size = maskL a2.toNat sT by rw [HS.out.2, mixL_full])
                    rw [HM.out] at HR
                    have hml : (maskL a2.toNat sT).length = s.size := by rw [HS.out.2]; simp [maskL]
                    have hin : Lib.BytesIn wr (some ⟨wc.heap.size, 0, none⟩) s.size (zsL (maskL a2.toNat sT)) := Lib.BytesIn.of_cells fun i hi => by
                      have := (HR.out i (by simp [zsL]; omega)).1
                      rw [← this]
                      congr 1
                      by_cases h0 : i = 0 <;> simp [Addr.add, h0]
                    have hcv := Lib.BytesIn.convert (P := Tryd.prog) hin (by simp [zsL, hml]) cap 37 5 9 Tryd.underlying37 Tryd.underlying5 Tryd.underlying9
                    rw [show strOfNums (zsL (maskL a2.toNat sT)) = ⟨(maskL a2.toNat sT).toArray⟩ from str_of_u8s _] at hcv
                    have HPm := Lib.hid (HPar.out a2.toNat)
                    have HSz := Lib.hid (show (⟨(maskL a2.toNat sT).toArray⟩ : ByteArray).size ≤ 1048576 by show (maskL a2.toNat sT).length ≤ _; omega)
                    clear hin hml HR HM HPar
                    generalize maskL a2.toNat sT = M at *
                    go_wp2_with fail
                    refine (parse_any ⟨M.toArray⟩ HSz.out _ (hT.below HB3.out).weeks (hT.below HB3.out).folds).mono ?_
                    rintro e w3 ⟨rfl, hb3⟩
                    rw [show parseR (⟨M.toArray⟩ : ByteArray).data.toList = ((1 + (kk : Int), (k : Int), (D : Int)), 0) from HPm.out]
                    unfold dayV
                    have HD4 := Lib.hid (HD3.out.below hb3 HD3.out.lt)
                    have HB4 := Lib.hid (HB3.out.trans (hb3.mono HB3.out.size))
                    obtain ⟨d0, d1, d2, _, _, _⟩ := HD4.out.three
                    have hzz := HD4.out.lt
                    clear hcv hb3 HD3 HB3 c0 c1 c2
                    have HT2 := Lib.hid (show (⟨tw.toArray⟩ : ByteArray).extract 0 1 = ⟨(tw.take 1).toArray⟩ by apply ByteArray.ext; simp [ByteArray.data_extract])
                    have htl2 : (1 : Int) ≤ (tw.length : Int) := by omega
                    by_cases hl2 : lt = 2
                    · subst hl2
                      have HAmb := Lib.hid (show parseR (lastB ++ tw.take 1) = ((0, 0, 0), 8) by
                        have := amb_fin ⟨k, hk7⟩ (by simp only [HL.out]; rfl)
                        simp only [HW.out] at this
                        rw [HT1.out]; exact this)
                      have HLL := Lib.hid (show (⟨#[108, 97, 115, 116]⟩ ++ ⟨(tw.take 1).toArray⟩ : ByteArray).data.toList = lastB ++ tw.take 1 by rw [ba_append]; simp [lastB])
                      have HLS := Lib.hid (show (⟨#[108, 97, 115, 116]⟩ ++ ⟨(tw.take 1).toArray⟩ : ByteArray).size ≤ 1048576 by rw [ba_append]; show (#[108, 97, 115, 116] ++ (tw.take 1).toArray).size ≤ _; simp; omega)
                      go_wp2_with fail
                      rw [HT2.out]
                      have HB5 := Lib.hid (HB4.out.alloc HB4.out.size (.cells #[.int .i64 (1 + (kk : Int)), .int .i64 (k : Int), .int .i64 (D : Int)] 23))
                      refine (parse_any _ HLS.out _ (hT.below HB5.out).weeks (hT.below HB5.out).folds).mono ?_
                      rintro e w4 ⟨rfl, hb4⟩
                      rw [HLL.out, HAmb.out]
                      unfold dayV
                      have HB6 := Lib.hid (HB5.out.trans (hb4.mono HB5.out.size))
                      clear hb4 d0 d1 d2
                      go_wp2_with fail
                      have HB7 := Lib.hid (HB6.out.alloc HB6.out.size (.cells #[.int .i64 0, .int .i64 0, .int .i64 0] 23))
                      refine (works_any _ (hT.below HB7.out)).mono ?_
                      rintro e w5 ⟨rfl, hb5⟩
                      go_wp2_with fail
                      go_ret
                      exact ⟨rfl, HB7.out.trans (hb5.mono HB7.out.size)⟩
                    · have hl2b : ((lt : Int) == 2) = false := beq_eq_false_iff_ne.2 (by omega)
                      go_wp2_with fail
                      have HB7 := Lib.hid (HB4.out.alloc HB4.out.size (.cells #[.int .i64 (1 + (kk : Int)), .int .i64 (k : Int), .int .i64 (D : Int)] 23))
                      refine (works_any _ (hT.below HB7.out)).mono ?_
                      rintro e w5 ⟨rfl, hb5⟩
                      go_wp2_with fail
                      go_ret
                      exact ⟨rfl, HB7.out.trans (hb5.mono HB7.out.size)⟩
end Go.Proofs.YteikhjhamjohpaaDoor
