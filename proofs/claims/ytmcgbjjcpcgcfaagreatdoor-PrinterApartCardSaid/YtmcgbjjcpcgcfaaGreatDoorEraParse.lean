/-
  eraline.rules: what it writes, or with what it panics.
  eraline.read: what it returns, or with what it panics.
  eraline.line as a whole; eraline.Print: what the calls return.
  eraline.Parse and eraline.Print: what the calls return.
  strings.Split at a space; what eraline.Parse reads of a string's fields.
-/
import Derived.Test.YtmcgbjjcpcgcfaaGreatDoorEraHead
import Derived.Test.YtmcgbjjcpcgcfaaGreatDoorEraLine3
import Derived.Test.YtmcgbjjcpcgcfaaGreatDoorOffAll
import Derived.Lib.SplitLaws
set_option linter.unusedVariables false
set_option linter.unusedSimpArgs false
namespace Go.Proofs.YtmcgbjjcpcgcfaaGreatDoor
open Go.RowKit

theorem infoEra : (Tryz.prog.info? 55).map (·.size) = some 13 := by kernel_rfl
theorem Blk.farSets {g b : Nat} {t : TypeId} {cs : Array Value} {w : World} (h : Blk w b t cs) (hne : b ≠ g) : ∀ (vs : List Value) (o : Nat), Blk (w.setCells g o vs) b t cs := by
  intro vs
  induction vs generalizing w with
  | nil => intro o; exact h
  | cons v vs ih => intro o; exact ih (h.far hne v) (o + 1)
theorem Blk.setMid {w : World} {g : Nat} {t : TypeId} (A B C D : List Value) (h : Blk w g t (A ++ (B ++ D)).toArray) (hs : C.length = B.length) : Blk (w.setCells g A.length C) g t (A ++ (C ++ D)).toArray := by
  obtain ⟨c, h1, h2⟩ := Blk.sets C A.length w _ h (by simp [hs])
  have e : c = (A ++ (C ++ D)).toArray := by
    apply Array.ext_getElem?
    intro j
    rw [h2 j]
    simp only [List.getElem?_toArray]
    by_cases h3 : j < A.length
    · rw [if_neg (by omega), List.getElem?_append_left h3, List.getElem?_append_left h3]
    · by_cases h4 : j - A.length < C.length
      · rw [if_pos ⟨by omega, by omega⟩, List.getElem?_append_right (by omega), List.getElem?_append_left h4]
      · rw [if_neg (by omega), List.getElem?_append_right (by omega), List.getElem?_append_right (by omega), List.getElem?_append_right (by omega), List.getElem?_append_right (by omega), hs]
  rw [e] at h1
  exact h1
set_option maxHeartbeats 1000000 in
theorem line_off (off kd sv : Int) (sn sf : ByteArray) (is : Bool) (y m d1 d2 d3 h1 h2 : Int) (w : World)
    (HA : Hid (∀ W, Below w.heap.size w W → Calls Tryz.prog 96 #[.int .i64 off] W fun e w' => e = Fails 2 ∧ Below W.heap.size W w')) :
    Calls Tryz.prog 64 #[.agg #[.int .i64 off, .int .i64 kd, .int .i64 sv, .string sn, .string sf, .bool is, .int .i64 y, .int .i64 m, .int .i64 d1, .int .i64 d2, .int .i64 d3, .int .i64 h1, .int .i64 h2]] w fun e w' => e = Fails 2 ∧ Below w.heap.size w w' := by
  have HB0 := Lib.hid ((Below.refl w.heap.size w).alloc (Nat.le_refl _) (.cells #[.int .i64 off, .int .i64 kd, .int .i64 sv, .string sn, .string sf, .bool is, .int .i64 y, .int .i64 m, .int .i64 d1, .int .i64 d2, .int .i64 d3, .int .i64 h1, .int .i64 h2] 55))
  go_enter Tryz.func64, Tryz.ntmps64
  go_wp2_with fail
  refine (HA.out _ HB0.out).mono ?_
  rintro e w1 ⟨rfl, hb1⟩
  exact ⟨rfl, rfl, HB0.out.trans (hb1.mono HB0.out.size)⟩

theorem endT_len {u : UntilP} (h : UntilRight u) : (endT u).length ≤ 200 := by
  unfold endT
  have h1 : ∀ a ∈ untilFs u, a.length ≤ 30 := by
    intro a ha
    obtain ⟨hi, ha⟩ := until_in ha
    rcases ha with rfl | rfl | rfl | rfl
    · exact (year_plain (h.year hi)).2
    · have := monthT_len u.mon; omega
    · have := (day_back (h.day hi)).2.2; omega
    · have := clock_len (h.hour hi); omega
  have h2 : (untilFs u).length ≤ 4 := by
    rw [until_len]
    have := lastN_le u
    split <;> omega
  have key : ∀ l : List (List UInt8), (∀ a ∈ l, a.length ≤ 30) → (l.flatMap fun x => 32 :: x).length ≤ 31 * l.length := by
    intro l
    induction l with
    | nil => intro _; simp
    | cons a l ih =>
      intro h
      have := ih fun x hx => h x (by simp [hx])
      have := h a (by simp)
      simp only [List.flatMap_cons, List.length_append, List.length_cons]
      omega
  have := key _ h1
  omega
theorem fin_str {T : List UInt8} {x : List UInt8} (h : x = T) : Ending.returned (.string ⟨x.toArray⟩) = .returned (.string ⟨T.toArray⟩) := by rw [h]

set_option maxRecDepth 100000 in
set_option maxHeartbeats 1000000 in
theorem line_yes (e : EraP) (w : World) (hT : ETabs w) (hr : EraRight e) :
    Calls Tryz.prog 64 #[.agg e.cells] w fun r w' => r = .returned (.string ⟨(eraT e).toArray⟩) ∧ Below w.heap.size w w' := by
  have hE := eraT_eq e
  obtain ⟨off, kd, sv, set, fmt, ⟨is, y, m, ⟨d1, d2, d3⟩, ⟨h1, h2⟩⟩⟩ := e
  obtain ⟨sn, rfl⟩ : ∃ sn : ByteArray, set = sn.data.toList := ⟨⟨set.toArray⟩, by simp⟩
  obtain ⟨sf, rfl⟩ : ∃ sf : ByteArray, fmt = sf.data.toList := ⟨⟨fmt.toArray⟩, by simp⟩
  have HA := Lib.hid (show ∀ W, Below w.heap.size w W → Calls Tryz.prog 96 #[.int .i64 off] W fun e w' => e = .returned (.string ⟨(offTx off).toArray⟩) ∧ Below W.heap.size W w' from fun W hW => amount_ok off W (hT.below hW).pows hr.off)
  have hf := fmt_plain hr.fmt
  have hfs : sf.size ≤ 1000 := by have : sf.data.toList.length = sf.size := by simp
                                  have := hf.2.2; simp only at this; omega
  have HF := Lib.hid (show ∀ W, Calls Tryz.prog 98 #[.string sf] W fun e w' => e = .returned (.bool true) ∧ Below W.heap.size W w' from fun W => by have := written_any sf W (by omega); rwa [show fmtB sf.data.toList = true from hr.fmt] at this)
  have HE := Lib.hid (show ∀ W, Below w.heap.size w W → Calls Tryz.prog 99 #[.agg #[.bool is, .int .i64 y, .int .i64 m, .int .i64 d1, .int .i64 d2, .int .i64 d3, .int .i64 h1, .int .i64 h2]] W fun e w' => e = .returned (.string ⟨(endT ⟨is, y, m, (d1, d2, d3), (h1, h2)⟩).toArray⟩) ∧ Below W.heap.size W w' from fun W hW => end_yes ⟨is, y, m, (d1, d2, d3), (h1, h2)⟩ W (hT.below hW) hr.til)
  have hla : (⟨(offTx off).toArray⟩ : ByteArray).size ≤ 1000 := by have := off_len hr.off; show (offTx off).toArray.size ≤ 1000; simp only [List.size_toArray]; simp only at this; omega
  have hle : (⟨(endT ⟨is, y, m, (d1, d2, d3), (h1, h2)⟩).toArray⟩ : ByteArray).size ≤ 1000 := by have := endT_len hr.til; show (Array.size _) ≤ 1000; simp only [List.size_toArray]; simp only at this; omega
  have hk := hr.kind
  simp only at hk
  rw [hE]
  rcases (by omega : kd = 0 ∨ kd = 1 ∨ kd = 2) with rfl | rfl | rfl
  · obtain rfl : sv = 0 := hr.save0 (show (0 : Int) ≠ 1 by decide)
    have h0 : sn.data.toList = [] := hr.set0 (show (0 : Int) ≠ 2 by decide)
    obtain rfl : sn = ⟨#[]⟩ := str_of h0
    have HS := Lib.hid (show ∀ W, Calls Tryz.prog 55 #[.string ⟨#[]⟩] W fun e w' => e = .returned (.bool false) ∧ Below W.heap.size W w' from fun W => by have := set_any ⟨#[]⟩ W (by decide); rwa [show setB (⟨#[]⟩ : ByteArray).data.toList = false from setB_nil] at this)
    refine (line_ok0 off 0 0 sf is y m d1 d2 d3 h1 h2 w _ rfl rfl rfl rfl rfl HS HF hla hfs _ hle HE HA).mono fun e w' ⟨h, hb⟩ => ⟨?_, hb⟩
    rw [h]
    exact fin_str rfl
  · have h0 : sn.data.toList = [] := hr.set0 (show (1 : Int) ≠ 2 by decide)
    obtain rfl : sn = ⟨#[]⟩ := str_of h0
    have HS := Lib.hid (show ∀ W, Calls Tryz.prog 55 #[.string ⟨#[]⟩] W fun e w' => e = .returned (.bool false) ∧ Below W.heap.size W w' from fun W => by have := set_any ⟨#[]⟩ W (by decide); rwa [show setB (⟨#[]⟩ : ByteArray).data.toList = false from setB_nil] at this)
    have hs1 := hr.save1 rfl
    have HA2 := Lib.hid (show ∀ W, Below w.heap.size w W → Calls Tryz.prog 96 #[.int .i64 sv] W fun e w' => e = .returned (.string ⟨(offTx sv).toArray⟩) ∧ Below W.heap.size W w' from fun W hW => amount_ok sv W (hT.below hW).pows hs1)
    have hls : (⟨(offTx sv).toArray⟩ : ByteArray).size ≤ 1000 := by have := off_len hs1; show (Array.size _) ≤ 1000; simp only [List.size_toArray]; simp only at this; omega
    refine (line_ok1 off 1 sv sf is y m d1 d2 d3 h1 h2 w _ rfl rfl rfl rfl HS HF hla hfs _ hls HA2 _ hle HE HA).mono fun e w' ⟨h, hb⟩ => ⟨?_, hb⟩
    rw [h]
    exact fin_str rfl
  · obtain rfl : sv = 0 := hr.save0 (show (2 : Int) ≠ 1 by decide)
    have hs2 := hr.set2 rfl
    have hsz : sn.size ≤ 1000 := by have := set_len hs2; have h2 : sn.data.toList.length = sn.size := by simp
                                    simp only at this; omega
    have HS := Lib.hid (show ∀ W, Calls Tryz.prog 55 #[.string sn] W fun e w' => e = .returned (.bool true) ∧ Below W.heap.size W w' from fun W => by have := set_any sn W (by omega); rwa [show setB sn.data.toList = true from hs2] at this)
    refine (line_ok2 off 2 0 sn sf is y m d1 d2 d3 h1 h2 w _ rfl rfl rfl rfl rfl hsz HS HF hla hfs _ hle HE HA).mono fun e w' ⟨h, hb⟩ => ⟨?_, hb⟩
    rw [h]
    exact fin_str rfl

set_option maxRecDepth 100000 in
set_option maxHeartbeats 1000000 in
theorem line_fail (e : EraP) (w : World) (hT : ETabs w) (hl1 : e.set.length ≤ 1048576) (hl2 : e.fmt.length ≤ 1048576) (hr : ¬ EraRight e) :
    Calls Tryz.prog 64 #[.agg e.cells] w fun r w' => r = Fails 2 ∧ Below w.heap.size w w' := by
  obtain ⟨off, kd, sv, set, fmt, ⟨is, y, m, ⟨d1, d2, d3⟩, ⟨h1, h2⟩⟩⟩ := e
  obtain ⟨sn, rfl⟩ : ∃ sn : ByteArray, set = sn.data.toList := ⟨⟨set.toArray⟩, by simp⟩
  obtain ⟨sf, rfl⟩ : ∃ sf : ByteArray, fmt = sf.data.toList := ⟨⟨fmt.toArray⟩, by simp⟩
  replace hl1 : sn.size ≤ 1048576 := by simpa using hl1
  replace hl2 : sf.size ≤ 1048576 := by simpa using hl2
  by_cases ho : -604799 ≤ off ∧ off ≤ 604799
  case neg => exact line_off off kd sv sn sf is y m d1 d2 d3 h1 h2 w (Lib.hid fun W hW => amount_no off W (hT.below hW).pows ho)
  have HA := Lib.hid (show ∀ W, Below w.heap.size w W → Calls Tryz.prog 96 #[.int .i64 off] W fun e w' => e = .returned (.string ⟨(offTx off).toArray⟩) ∧ Below W.heap.size W w' from fun W hW => amount_ok off W (hT.below hW).pows ho)
  have hla : (⟨(offTx off).toArray⟩ : ByteArray).size ≤ 1000 := by have := off_len ho; show (Array.size _) ≤ 1000; simp only [List.size_toArray]; omega
  by_cases hk0 : 0 ≤ kd
  case neg => exact line_kneg off kd sv sn sf is y m d1 d2 d3 h1 h2 w _ (decide_eq_false hk0) HA
  by_cases hk2 : kd ≤ 2
  case neg => exact line_kbig off kd sv sn sf is y m d1 d2 d3 h1 h2 w _ (decide_eq_true hk0) (decide_eq_false hk2) HA
  have HSa := fun b (hb : setB sn.data.toList = b) => Lib.hid (show ∀ W, Calls Tryz.prog 55 #[.string sn] W fun e w' => e = .returned (.bool b) ∧ Below W.heap.size W w' from fun W => by have := set_any sn W hl1; rwa [hb] at this)
  have HFa := fun b (hb : fmtB sf.data.toList = b) => Lib.hid (show ∀ W, Calls Tryz.prog 98 #[.string sf] W fun e w' => e = .returned (.bool b) ∧ Below W.heap.size W w' from fun W => by have := written_any sf W hl2; rwa [hb] at this)
  by_cases hs : kd = 1 ∨ sv = 0
  case neg => exact line_save off kd sv sn sf is y m d1 d2 d3 h1 h2 w _ (decide_eq_true hk0) (decide_eq_true hk2) (beq_eq_false_iff_ne.2 fun h => hs (.inl h)) (beq_eq_false_iff_ne.2 fun h => hs (.inr h)) HA
  have D0 := decide_eq_true hk0
  have D2 := decide_eq_true hk2
  by_cases hne : (decide (kd = 2) = setB sn.data.toList)
  case neg =>
    cases hb : setB sn.data.toList with
    | true =>
      have hc : (kd == 2) = false := beq_eq_false_iff_ne.2 fun h => hne (by rw [hb, h]; rfl)
      by_cases h1' : kd = 1
      · exact line_set_t1 off kd sv sn sf is y m d1 d2 d3 h1 h2 w _ D0 D2 (beq_iff_eq.2 h1') hc (HSa _ hb) HA
      · exact line_set_t0 off kd sv sn sf is y m d1 d2 d3 h1 h2 w _ D0 D2 (beq_eq_false_iff_ne.2 h1') (beq_iff_eq.2 (hs.resolve_left h1')) hc (HSa _ hb) HA
    | false =>
      have hc : kd = 2 := by
        apply Classical.byContradiction
        intro h
        exact hne (by rw [hb, decide_eq_false h])
      subst hc
      exact line_set_f off 2 sv sn sf is y m d1 d2 d3 h1 h2 w _ D0 D2 rfl (beq_iff_eq.2 (hs.resolve_left (by decide))) rfl (HSa _ hb) HA
  by_cases h2' : kd = 2
  · subst h2'
    have hb : setB sn.data.toList = true := hne.symm
    have hs0 : sv = 0 := hs.resolve_left (by decide)
    subst hs0
    cases hf : fmtB sf.data.toList with
    | false => exact line_fmt2 off 2 0 sn sf is y m d1 d2 d3 h1 h2 w _ D0 D2 rfl rfl rfl (HSa _ hb) (HFa _ hf) HA
    | true =>
      have hsz : sn.size ≤ 1000 := by have := set_len hb; have h2 : sn.data.toList.length = sn.size := by simp
                                      omega
      have hfs : sf.size ≤ 1000 := by have := (fmt_plain hf).2.2; have h2 : sf.data.toList.length = sf.size := by simp
                                      omega
      have hu : ¬ UntilRight ⟨is, y, m, (d1, d2, d3), (h1, h2)⟩ := fun hu => hr ⟨ho, ⟨hk0, hk2⟩, fun _ => rfl, (fun h => absurd (show (2 : Int) = 1 from h) (by decide)), fun _ => hb, (fun h => absurd rfl h), hf, hu⟩
      exact line_ef2 off 2 0 sn sf is y m d1 d2 d3 h1 h2 w _ D0 D2 rfl rfl rfl hsz (HSa _ hb) (HFa _ hf) hla hfs (Lib.hid fun W hW => end_fail ⟨is, y, m, (d1, d2, d3), (h1, h2)⟩ W (hT.below hW) hu) HA
  · have hb : setB sn.data.toList = false := by rw [← hne, decide_eq_false h2']
    have hc : (kd == 2) = false := beq_eq_false_iff_ne.2 h2'
    by_cases he : sn.data.toList = []
    case neg =>
      have e1 : sn.toList.isEmpty = false := by rw [Lib.toList_data]; cases h : sn.data.toList with | nil => exact absurd h he | cons a l => rfl
      have e2 : (sn.toList == []) = false := str_ne he
      by_cases h1' : kd = 1
      · exact line_rest1 off kd sv sn sf is y m d1 d2 d3 h1 h2 w _ D0 D2 (beq_iff_eq.2 h1') hc e1 e2 (HSa _ hb) HA
      · exact line_rest0 off kd sv sn sf is y m d1 d2 d3 h1 h2 w _ D0 D2 (beq_eq_false_iff_ne.2 h1') (beq_iff_eq.2 (hs.resolve_left h1')) hc e1 e2 (HSa _ hb) HA
    obtain rfl : sn = ⟨#[]⟩ := str_of he
    cases hf : fmtB sf.data.toList with
    | false =>
      by_cases h1' : kd = 1
      · exact line_fmt1 off kd sv sf is y m d1 d2 d3 h1 h2 w _ D0 D2 (beq_iff_eq.2 h1') hc (HSa _ hb) (HFa _ hf) HA
      · exact line_fmt0 off kd sv sf is y m d1 d2 d3 h1 h2 w _ D0 D2 (beq_eq_false_iff_ne.2 h1') (beq_iff_eq.2 (hs.resolve_left h1')) hc (HSa _ hb) (HFa _ hf) HA
    | true =>
      have hfs : sf.size ≤ 1000 := by have := (fmt_plain hf).2.2; have h2 : sf.data.toList.length = sf.size := by simp
                                      omega
      by_cases h1' : kd = 1
      · by_cases hsv : -604799 ≤ sv ∧ sv ≤ 604799
        · have hls : (⟨(offTx sv).toArray⟩ : ByteArray).size ≤ 1000 := by have := off_len hsv; show (Array.size _) ≤ 1000; simp only [List.size_toArray]; omega
          have hu : ¬ UntilRight ⟨is, y, m, (d1, d2, d3), (h1, h2)⟩ := fun hu => hr ⟨ho, ⟨hk0, hk2⟩, (fun h => absurd h1' h), fun _ => hsv, (fun h => absurd h h2'), fun _ => rfl, hf, hu⟩
          exact line_ef1 off kd sv sf is y m d1 d2 d3 h1 h2 w _ D0 D2 (beq_iff_eq.2 h1') hc (HSa _ hb) (HFa _ hf) hla hfs _ hls (Lib.hid fun W hW => amount_ok sv W (hT.below hW).pows hsv) (Lib.hid fun W hW => end_fail ⟨is, y, m, (d1, d2, d3), (h1, h2)⟩ W (hT.below hW) hu) HA
        · exact line_no1 off kd sv sf is y m d1 d2 d3 h1 h2 w _ D0 D2 (beq_iff_eq.2 h1') hc (HSa _ hb) (HFa _ hf) hla hfs (Lib.hid fun W hW => amount_no sv W (hT.below hW).pows hsv) HA
      · have hs0 : sv = 0 := hs.resolve_left h1'
        have hu : ¬ UntilRight ⟨is, y, m, (d1, d2, d3), (h1, h2)⟩ := fun hu => hr ⟨ho, ⟨hk0, hk2⟩, fun _ => hs0, (fun h => absurd h h1'), (fun h => absurd h h2'), fun _ => rfl, hf, hu⟩
        exact line_ef0 off kd sv sf is y m d1 d2 d3 h1 h2 w _ D0 D2 (beq_eq_false_iff_ne.2 h1') (beq_iff_eq.2 hs0) hc (HSa _ hb) (HFa _ hf) hla hfs (Lib.hid fun W hW => end_fail ⟨is, y, m, (d1, d2, d3), (h1, h2)⟩ W (hT.below hW) hu) HA

theorem infoE (e : EraP) : (Tryz.prog.info? 55).map (·.size) = some e.cells.size := infoEra

-- Parse$1 where read returns
set_option maxHeartbeats 400000 in
theorem print1_ok (a g : Nat) (E : Array Value) (T : ByteArray) (w : World) (hE : (Tryz.prog.info? 55).map (·.size) = some E.size) (ha : Blk w a 55 E) (hg : Blk w g 9 #[.string ⟨#[]⟩])
    (HR : Hid (Calls Tryz.prog 64 #[.agg E] w fun e w' => e = .returned (.string T) ∧ Below w.heap.size w w')) :
    Calls Tryz.prog 63 #[.pointer (some ⟨a, 0, none⟩), .pointer (some ⟨g, 0, none⟩)] w fun e w' => e = .returned (.tuple #[]) ∧ Blk w' g 9 #[.string T] ∧ But g w w' := by
  have HG := Lib.hid hg
  have HA := Lib.hid ha
  have Hi := Lib.hid hE
  clear hg ha hE
  go_enter Tryz.func63, Tryz.ntmps63
  go_wp2_with (refine wpList_load_row rfl 55 (.tmp 0) rfl a rfl 55 E (0, 0) _ HA.out Tryz.underlying55 rfl Hi.out ?_)
  refine HR.out.mono ?_
  rintro e w1 ⟨rfl, hb1⟩
  have HB1 := Lib.hid (And.intro (HG.out.below hb1 HG.out.lt) hb1)
  clear hb1
  have q0 : w1.cell? ⟨g, 0, none⟩ = some (.string ⟨#[]⟩) := HB1.out.1.cell_ rfl
  have f0 := HB1.out.1.frozen 0
  have hlt := HB1.out.1.lt
  go_wp2_with fail
  go_end0
  exact ⟨rfl, HB1.out.1.set_ 0 _, (But.of HB1.out.2).set 0 _⟩
set_option maxHeartbeats 400000 in
theorem print1_no (a g : Nat) (E : Array Value) (x : Int) (w : World) (hE : (Tryz.prog.info? 55).map (·.size) = some E.size) (ha : Blk w a 55 E)
    (HR : Hid (Calls Tryz.prog 64 #[.agg E] w fun e w' => e = Fails x ∧ Below w.heap.size w w')) :
    Calls Tryz.prog 63 #[.pointer (some ⟨a, 0, none⟩), .pointer (some ⟨g, 0, none⟩)] w fun e w' => e = Fails x ∧ Below w.heap.size w w' := by
  have HA := Lib.hid ha
  have Hi := Lib.hid hE
  clear ha hE
  go_enter Tryz.func63, Tryz.ntmps63
  go_wp2_with (refine wpList_load_row rfl 55 (.tmp 0) rfl a rfl 55 E (0, 0) _ HA.out Tryz.underlying55 rfl Hi.out ?_)
  refine HR.out.mono ?_
  rintro e w1 ⟨rfl, hb1⟩
  exact ⟨rfl, rfl, hb1⟩

theorem load_str (w : World) (g : Nat) (T : ByteArray) (h : Blk w g 9 #[.string T]) : (loadVar 9 ⟨g, 0, none⟩).run Tryz.prog w = .ok (.string T) w := by
  have q : w.cell? ⟨g, 0, none⟩ = some (.string T) := h.cell_ rfl
  simp [go_sem, q]
set_option maxRecDepth 100000 in
set_option maxHeartbeats 1000000 in
theorem eprint_ok (E : Array Value) (T : ByteArray) (w : World) (hE : (Tryz.prog.info? 55).map (·.size) = some E.size)
    (HR : Hid (∀ W, Below w.heap.size w W → Calls Tryz.prog 64 #[.agg E] W fun e w' => e = .returned (.string T) ∧ Below W.heap.size W w')) :
    Calls Tryz.prog 18 #[.agg E] w fun e w' => e = .returned (.tuple #[.string T, .int .i64 0]) ∧ Below w.heap.size w w' := by
  have HX := Lib.hid (show Calls Tryz.prog 62 #[.func (.func 63) #[] #[.pointer (some ⟨w.heap.size, 0, none⟩), .pointer (some ⟨w.heap.size + 1, 0, none⟩)]] ((w.alloc (.cells E 55)).alloc (.cells #[.string ⟨#[]⟩] 9)) fun e w' => e = .returned (.int .i64 0) ∧ Blk w' (w.heap.size + 1) 9 #[.string T] ∧ Below w.heap.size w w' from by
    refine (caughtP_ok _ _ _ (fun w' => Blk w' (w.heap.size + 1) 9 #[.string T] ∧ Below w.heap.size w w') (Lib.hid ?_)).mono ?_
    · have b0 : Below w.heap.size w (((w.alloc (.cells E 55)).alloc (.cells #[.string ⟨#[]⟩] 9)).alloc (.cells #[.int .i64 0] 31)) := by go_grown
      refine (print1_ok w.heap.size (w.heap.size + 1) E T _ hE (((Blk.new' _ _ _ rfl).alloc _).alloc _) ((Blk.new' _ _ _ (by simp)).alloc _) (Lib.hid (HR.out _ b0))).mono ?_
      rintro e w1 ⟨he, hB, hb⟩
      refine ⟨he, ?_, hB, hb.below b0 (by omega) (by simp <;> omega)⟩
      exact (Blk.new' _ _ _ rfl).but hb (by simp)
    · rintro e w1 ⟨he, w2, ⟨hB, hb⟩, rfl⟩
      exact ⟨he, hB.far (by simp) _, hb.setCell (by simp <;> omega) _⟩)
  clear HR hE
  have hmf : ∀ (fn : Fn) (first cap : Array Value) (w : World), (Instr.makeFunc fn first cap).run Tryz.prog w = .ok (.func fn first cap) w := fun _ _ _ _ => rfl
  go_enter Tryz.func18, Tryz.ntmps18
  go_wp2_with fail
  refine HX.out.mono ?_
  rintro e w1 ⟨rfl, hB, hb⟩
  have HB := Lib.hid (And.intro hB hb)
  clear hB hb HX hmf
  have q0 : w1.cell? ⟨w.heap.size + 1, 0, none⟩ = some (.string T) := HB.out.1.cell_ rfl
  have f0 := HB.out.1.frozen 0
  have hlt := HB.out.1.lt
  go_wp2_with fail
  exact bodyPost_ret (results_cell1_tmp rfl _ _ (.string T) _ ⟨w.heap.size + 1, 0, none⟩ rfl rfl (load_str _ _ _ (HB.out.1.set_ 0 _))) rfl ⟨rfl, HB.out.2.setCell (by simp) _⟩
set_option maxRecDepth 100000 in
set_option maxHeartbeats 1000000 in
theorem eprint_no (E : Array Value) (x : Int) (w : World) (hE : (Tryz.prog.info? 55).map (·.size) = some E.size) (hx : x ≠ 0)
    (HR : Hid (∀ W, Below w.heap.size w W → Calls Tryz.prog 64 #[.agg E] W fun e w' => e = Fails x ∧ Below W.heap.size W w')) :
    Calls Tryz.prog 18 #[.agg E] w fun e w' => e = .returned (.tuple #[.string ⟨#[]⟩, .int .i64 x]) ∧ Below w.heap.size w w' := by
  have HX := Lib.hid (show Calls Tryz.prog 62 #[.func (.func 63) #[] #[.pointer (some ⟨w.heap.size, 0, none⟩), .pointer (some ⟨w.heap.size + 1, 0, none⟩)]] ((w.alloc (.cells E 55)).alloc (.cells #[.string ⟨#[]⟩] 9)) fun e w' => e = .returned (.int .i64 x) ∧ Blk w' (w.heap.size + 1) 9 #[.string ⟨#[]⟩] ∧ Below w.heap.size w w' from by
    refine (caughtP_no _ _ x _ (fun w' => Blk w' (w.heap.size + 1) 9 #[.string ⟨#[]⟩] ∧ Below w.heap.size w w') (Lib.hid ?_)).mono ?_
    · have b0 : Below w.heap.size w (((w.alloc (.cells E 55)).alloc (.cells #[.string ⟨#[]⟩] 9)).alloc (.cells #[.int .i64 0] 31)) := by go_grown
      refine (print1_no w.heap.size (w.heap.size + 1) E x _ hE (((Blk.new' _ _ _ rfl).alloc _).alloc _) (Lib.hid (HR.out _ b0))).mono ?_
      rintro e w1 ⟨he, hb⟩
      exact ⟨he, (Blk.new' _ _ _ rfl).below hb (by simp), ((Blk.new' _ _ _ (by simp)).alloc _).below hb (by simp <;> omega), b0.trans (hb.mono b0.size)⟩
    · rintro e w1 ⟨he, w2, ⟨hB, hb⟩, rfl⟩
      exact ⟨he, (hB.far (by simp) _).alloc _, rbelow_alloc (hb.setCell (by simp <;> omega) _) _⟩)
  have hx2 : (x != 0) = true := bne_iff_ne.2 hx
  clear HR hE hx
  have hmf : ∀ (fn : Fn) (first cap : Array Value) (w : World), (Instr.makeFunc fn first cap).run Tryz.prog w = .ok (.func fn first cap) w := fun _ _ _ _ => rfl
  go_enter Tryz.func18, Tryz.ntmps18
  go_wp2_with fail
  refine HX.out.mono ?_
  rintro e w1 ⟨rfl, hB, hb⟩
  have HB := Lib.hid (And.intro hB hb)
  clear hB hb HX hmf
  have q0 : w1.cell? ⟨w.heap.size + 1, 0, none⟩ = some (.string ⟨#[]⟩) := HB.out.1.cell_ rfl
  have f0 := HB.out.1.frozen 0
  have hlt := HB.out.1.lt
  go_wp2_with fail
  exact bodyPost_ret (results_cell1_tmp rfl _ _ (.string ⟨#[]⟩) _ ⟨w.heap.size + 1, 0, none⟩ rfl rfl (load_str _ _ _ (HB.out.1.set_ 0 _))) rfl ⟨rfl, HB.out.2.setCell (by simp) _⟩

theorem eprint_any (e : EraP) (w : World) (hT : ETabs w) (hl1 : e.set.length ≤ 1048576) (hl2 : e.fmt.length ≤ 1048576) :
    Calls Tryz.prog 18 #[.agg e.cells] w fun r w' => r = .returned (.tuple #[.string ⟨(eraPrintR e).1.toArray⟩, .int .i64 (eraPrintR e).2]) ∧ Below w.heap.size w w' := by
  by_cases h : eraOk e = true
  · rw [show eraPrintR e = (eraT e, 0) from if_pos h]
    exact eprint_ok e.cells _ w (infoE e) (Lib.hid fun W hW => line_yes e W (hT.below hW) ((eraOk_iff e).1 h))
  · rw [show eraPrintR e = ([], 2) from if_neg h]
    exact eprint_no e.cells 2 w (infoE e) (by decide) (Lib.hid fun W hW => line_fail e W (hT.below hW) hl1 hl2 fun hr => h ((eraOk_iff e).2 hr))


def MaxL (w : World) : Prop := ∃ m, w.cell? ⟨4, 0, none⟩ = some (.int .i64 m)
theorem MaxL.below {w w' : World} (h : MaxL w) (hb : Below w.heap.size w w') : MaxL w' := by
  obtain ⟨m, hm⟩ := h
  exact ⟨m, (hb.cell (block_lt_of_cell hm)).trans hm⟩
end Go.Proofs.YtmcgbjjcpcgcfaaGreatDoor
