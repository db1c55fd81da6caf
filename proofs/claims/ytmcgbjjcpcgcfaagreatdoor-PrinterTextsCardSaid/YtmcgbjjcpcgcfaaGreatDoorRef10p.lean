/-
  The reference of layer 10, printing: Print returns what the program's function returns.
-/
import Derived.Test.YtmcgbjjcpcgcfaaGreatDoorRefTen
import Derived.Test.YtmcgbjjcpcgcfaaGreatDoorRuleAll
import Derived.Test.YtmcgbjjcpcgcfaaGreatDoorRelAll
import Derived.Test.YtmcgbjjcpcgcfaaGreatDoorRefNine
set_option linter.unusedVariables false
set_option linter.unusedSimpArgs false
namespace Go.Proofs.YtmcgbjjcpcgcfaaGreatDoor
open Go.RowKit

theorem r7Set' (s : ByteArray) (w : World) (hs : s.size ≤ 1048576) : Calls Tryz.prog 78 #[.string s] w fun e w' => e = .returned (.bool (setB s.data.toList)) ∧ w = w' := calls_flip (r7Set_any s w hs)
theorem r7Letter' (s : ByteArray) (w : World) (hs : s.size ≤ 1048576) : Calls Tryz.prog 80 #[.string s] w fun e w' => e = .returned (.bool (ofB 1 4 1 s.data.toList)) ∧ w = w' := calls_flip (r7Letter_any s w hs)
theorem r10named' (y : Int) (w : World) : Calls Tryz.prog 79 #[.int .i64 y] w fun e w' => e = .returned (.bool (namedB y)) ∧ w = w' := calls_flip (r10named_any y w)

theorem nand_cases {b1 b2 : Bool} (h : ¬ (b1 = true ∧ b2 = true)) : (b1 = false ∧ b2 = false) ∨ (b1 = false ∧ b2 = true) ∨ (b1 = true ∧ b2 = false) := by
  cases b1 <;> cases b2 <;> simp at h ⊢
theorem line_bytes (sn : ByteArray) (t1 t2 t3 dt ct ot t7 : List UInt8) : ((((((((((((((⟨#[82, 117, 108, 101, 32]⟩ : ByteArray) ++ sn) ++ ⟨#[32]⟩) ++ ⟨t1.toArray⟩) ++ ⟨#[32]⟩) ++ ⟨t2.toArray⟩) ++ ⟨#[32, 45, 32]⟩) ++ ⟨t3.toArray⟩) ++ ⟨#[32]⟩) ++ ⟨dt.toArray⟩) ++ ⟨#[32]⟩) ++ ⟨ct.toArray⟩) ++ ⟨#[32]⟩) ++ ⟨ot.toArray⟩) ++ ⟨#[32]⟩ ++ ⟨t7.toArray⟩ = ⟨(joinS [ruleB, sn.data.toList, t1, t2, [45], t3, dt, ct, ot, t7]).toArray⟩ := by
  apply ByteArray.ext
  simp [joinS, ruleB, ByteArray.data_append]

set_option maxRecDepth 100000 in
set_option maxHeartbeats 6000000 in
theorem r10print_any (r : RuleP) (w : World) (hn : r.name.length ≤ 1048576) (hl : r.lett.length ≤ 1048576) :
    Calls Tryz.prog 34 #[ruleV r] w fun e w' => e = .returned (.tuple #[.string ⟨(rulePrintR r).1.toArray⟩, .int .i64 (rulePrintR r).2]) ∧ Below w.heap.size w w' := by
  obtain ⟨nm, fr, tl, mo, ⟨dk, dw, dd⟩, ⟨hs, hb⟩, sv, lt⟩ := r
  obtain ⟨sn, rfl⟩ : ∃ sn : ByteArray, nm = sn.data.toList := ⟨⟨nm.toArray⟩, by simp⟩
  obtain ⟨sl, rfl⟩ : ∃ sl : ByteArray, lt = sl.data.toList := ⟨⟨lt.toArray⟩, by simp⟩
  obtain ⟨R, hR⟩ : ∃ R, rulePrintR ⟨sn.data.toList, fr, tl, mo, ⟨dk, dw, dd⟩, ⟨hs, hb⟩, sv, sl.data.toList⟩ = R := ⟨_, rfl⟩
  have HN := Lib.hid (show ¬ RuleRight ⟨sn.data.toList, fr, tl, mo, ⟨dk, dw, dd⟩, ⟨hs, hb⟩, sv, sl.data.toList⟩ → R = ([], 2) from fun h => hR ▸ if_neg fun h2 => h ((ruleOk_iff _).1 h2))
  have HY := Lib.hid (show RuleRight ⟨sn.data.toList, fr, tl, mo, ⟨dk, dw, dd⟩, ⟨hs, hb⟩, sv, sl.data.toList⟩ → R = (ruleT ⟨sn.data.toList, fr, tl, mo, ⟨dk, dw, dd⟩, ⟨hs, hb⟩, sv, sl.data.toList⟩, 0) from fun h => hR ▸ if_pos ((ruleOk_iff _).2 h))
  rw [hR]
  have HB0 := Lib.hid (show ∀ o, Below w.heap.size w (w.alloc o) from fun o => (Below.refl _ _).alloc (Nat.le_refl _) o)
  clear hR
  simp only at hn hl
  simp only [ruleV, RuleP.cells]
  change Calls Tryz.prog 34 #[.agg #[.string sn, .int .i64 fr, .int .i64 tl, .int .i64 mo, .int .i64 dk, .int .i64 dw, .int .i64 dd, .int .i64 hs, .int .i64 hb, .int .i64 sv, .string sl]] w _
  have HD := Lib.hid (show (rightDay dk dw dd = true ∧ printR dk dw dd = (dayText dk dw dd, 0)) ∨ (¬ rightDay dk dw dd = true ∧ printR dk dw dd = ([], 2)) from (Decidable.em (rightDay dk dw dd = true)).imp (fun h => ⟨h, if_pos h⟩) fun h => ⟨h, if_neg h⟩)
  have HC := Lib.hid (show (clockOk hs hb = true ∧ clockPrintR hs hb = (clockT hs hb, 0)) ∨ (¬ clockOk hs hb = true ∧ clockPrintR hs hb = ([], 2)) from (Decidable.em (clockOk hs hb = true)).imp (fun h => ⟨h, if_pos h⟩) fun h => ⟨h, if_neg h⟩)
  have HO := Lib.hid (off_cases sv)
  have HP1 := Lib.hid (fun W => rprint_any dk dw dd W)
  have HP2 := Lib.hid (fun W => r6print_any hs hb W)
  have HP3 := Lib.hid (fun W => r4print_any sv W)
  obtain ⟨dt, de, hdp⟩ : ∃ dt de, printR dk dw dd = (dt, de) := ⟨_, _, rfl⟩
  obtain ⟨ct, ce, hcp⟩ : ∃ ct ce, clockPrintR hs hb = (ct, ce) := ⟨_, _, rfl⟩
  obtain ⟨ot, oe, hop⟩ : ∃ ot oe, offPrintR sv = (ot, oe) := ⟨_, _, rfl⟩
  rw [hdp] at HD
  rw [hcp] at HC
  rw [hop] at HO
  simp only [hdp] at HP1
  simp only [hcp] at HP2
  simp only [hop] at HP3
  clear hdp hcp hop
  go_enter Tryz.func34, Tryz.ntmps34
  go_wp2_with fail
  refine (HP1.out _).mono ?_
  rintro e w1 ⟨rfl, hb1⟩
  have HB1 := Lib.hid (And.intro ((Blk.new' w 47 #[.string sn, .int .i64 fr, .int .i64 tl, .int .i64 mo, .int .i64 dk, .int .i64 dw, .int .i64 dd, .int .i64 hs, .int .i64 hb, .int .i64 sv, .string sl] rfl).below hb1 (by simp)) ((HB0.out _).trans (hb1.mono (HB0.out _).size)))
  have c7 : w1.cell? ⟨w.heap.size, 7, none⟩ = some (.int .i64 hs) := HB1.out.1.cell_ rfl
  have c8 : w1.cell? ⟨w.heap.size, 8, none⟩ = some (.int .i64 hb) := HB1.out.1.cell_ rfl
  clear hb1 HB0 HP1
  go_wp2_with fail
  refine (HP2.out _).mono ?_
  rintro e w2 ⟨rfl, hb2⟩
  have HB2 := Lib.hid (And.intro (HB1.out.1.below hb2 HB1.out.1.lt) (HB1.out.2.trans (hb2.mono HB1.out.2.size)))
  clear hb2 HB1 HP2 c7 c8
  have c9 : w2.cell? ⟨w.heap.size, 9, none⟩ = some (.int .i64 sv) := HB2.out.1.cell_ rfl
  go_wp2_with fail
  refine (HP3.out _).mono ?_
  rintro e w3 ⟨rfl, hb3⟩
  have HB3 := Lib.hid (And.intro (HB2.out.1.below hb3 HB2.out.1.lt) (HB2.out.2.trans (hb3.mono HB2.out.2.size)))
  clear hb3 HB2 HP3 c9
  have HS := Lib.hid (fun W => r7Set' sn W (by rw [size_len]; exact hn))
  have HLe := Lib.hid (fun W => r7Letter' sl W (by rw [size_len]; exact hl))
  clear hn hl
  go_upto_region 4 with fail
  go_cut [83] (fun s83 wx => (s83 = .bool true ∧ Hid (R = ([], 2)) ∨ s83 = .bool false ∧ Hid (RuleRight ⟨sn.data.toList, fr, tl, mo, ⟨dk, dw, dd⟩, ⟨hs, hb⟩, sv, sl.data.toList⟩)) ∧ w3 = wx)
  case first =>
    have c0 : w3.cell? ⟨w.heap.size, 0, none⟩ = some (.string sn) := HB3.out.1.cell_ rfl
    have c1 : w3.cell? ⟨w.heap.size, 1, none⟩ = some (.int .i64 fr) := HB3.out.1.cell_ rfl
    have c2 : w3.cell? ⟨w.heap.size, 2, none⟩ = some (.int .i64 tl) := HB3.out.1.cell_ rfl
    have c3 : w3.cell? ⟨w.heap.size, 3, none⟩ = some (.int .i64 mo) := HB3.out.1.cell_ rfl
    have c10 : w3.cell? ⟨w.heap.size, 10, none⟩ = some (.string sl) := HB3.out.1.cell_ rfl
    go_wp2_with fail
    refine (HS.out _).mono ?_
    rintro e w4 ⟨rfl, rfl⟩
    cases hset : setB sn.data.toList
    case false =>
      have HR := Lib.hid (HN.out fun h => Bool.noConfusion (hset.symm.trans h.name))
      clear hset HN HY HD HC HO HS HLe
      go_wp2_with fail
      go_meet
      exact ⟨.inl ⟨rfl, HR⟩, rfl⟩
    have HSet := Lib.hid hset
    clear hset HS
    go_wp2_with fail
    refine (r10named' fr _).mono ?_
    rintro e w5 ⟨rfl, rfl⟩
    cases hfr : namedB fr
    case false =>
      have HR := Lib.hid (HN.out fun h => Bool.noConfusion (hfr.symm.trans h.frm))
      clear hfr HN HY HD HC HO HLe
      go_wp2_with fail
      go_meet
      exact ⟨.inl ⟨rfl, HR⟩, rfl⟩
    have HFr := Lib.hid hfr
    clear hfr
    go_wp2_with fail
    refine (r10named' tl _).mono ?_
    rintro e w5 ⟨rfl, rfl⟩
    by_cases htl : namedB tl = true ∨ tl = 1048576
    case neg =>
      have HR := Lib.hid (HN.out fun h => htl h.til)
      have ht1 : namedB tl = false := by cases h : namedB tl with | false => rfl | true => exact absurd (.inl h) htl
      have ht2 : (tl != 1048576) = true := by rw [bne_iff_ne]; exact fun h => htl (.inr h)
      rw [ht1]
      clear htl HN HY HD HC HO HLe ht1
      go_wp2_with fail
      go_meet
      exact ⟨.inl ⟨rfl, HR⟩, rfl⟩
    have HTl := Lib.hid htl
    have HTx := Lib.hid (show namedB tl = true ∨ (namedB tl = false ∧ (tl != 1048576) = false) by cases h : namedB tl with | true => exact .inl rfl | false => exact .inr ⟨rfl, by rw [htl.resolve_left (by rw [h]; decide)]; rfl⟩)
    clear htl
    by_cases hmo : 1 ≤ mo ∧ mo ≤ 12
    case neg =>
      have HR := Lib.hid (HN.out fun h => hmo h.mon)
      clear HN HY HD HC HO HLe
      rcases HTx.out with h | ⟨h, h2⟩
      all_goals
        rw [h]
        clear h HTx
        rcases (by omega : mo < 1 ∨ (¬ mo < 1 ∧ 12 < mo)) with hm | ⟨hm, hm2⟩
        all_goals
          clear hmo
          go_wp2_with fail
          go_meet
          exact ⟨.inl ⟨rfl, HR⟩, rfl⟩
    have HMo := Lib.hid hmo
    have hm3 : ¬ mo < 1 := by omega
    have hm4 : ¬ 12 < mo := by omega
    clear hmo
    rcases HD.out with ⟨hd, he⟩ | ⟨hd, he⟩
    case inr =>
      obtain ⟨rfl, rfl⟩ := Prod.mk.inj he
      have HR := Lib.hid (HN.out fun h => hd h.day)
      clear hd he HD HC HO HN HY HLe
      rcases HTx.out with h | ⟨h, h2⟩
      all_goals
        rw [h]
        clear h HTx
        go_wp2_with fail
        go_meet
        exact ⟨.inl ⟨by simp [hm3, hm4], HR⟩, rfl⟩
    obtain ⟨hdt, rfl⟩ := Prod.mk.inj he
    have HD1 := Lib.hid (And.intro hd hdt)
    clear hd he hdt HD
    rcases HC.out with ⟨hd, he⟩ | ⟨hd, he⟩
    case inr =>
      obtain ⟨rfl, rfl⟩ := Prod.mk.inj he
      have HR := Lib.hid (HN.out fun h => hd h.hour)
      clear hd he HC HO HN HY HLe
      rcases HTx.out with h | ⟨h, h2⟩
      all_goals
        rw [h]
        clear h HTx
        go_wp2_with fail
        go_meet
        exact ⟨.inl ⟨by simp [hm3, hm4], HR⟩, rfl⟩
    obtain ⟨hdt, rfl⟩ := Prod.mk.inj he
    have HC1 := Lib.hid (And.intro hd hdt)
    clear hd he hdt HC
    rcases HO.out with ⟨hd, he⟩ | ⟨hd, he⟩
    case inr =>
      obtain ⟨rfl, rfl⟩ := Prod.mk.inj he
      have HR := Lib.hid (HN.out fun h => hd h.save)
      clear hd he HO HN HY HLe
      rcases HTx.out with h | ⟨h, h2⟩
      all_goals
        rw [h]
        clear h HTx
        go_wp2_with fail
        go_meet
        exact ⟨.inl ⟨by simp [hm3, hm4], HR⟩, rfl⟩
    obtain ⟨hdt, rfl⟩ := Prod.mk.inj he
    have HO1 := Lib.hid (And.intro hd hdt)
    clear hd he hdt HO
    have HRR := Lib.hid (show (sl.data.toList = [] ∨ ofB 1 4 1 sl.data.toList = true) → RuleRight ⟨sn.data.toList, fr, tl, mo, ⟨dk, dw, dd⟩, ⟨hs, hb⟩, sv, sl.data.toList⟩ from fun h => ⟨HD1.out.1, HC1.out.1, HO1.out.1, HSet.out, HFr.out, HTl.out, HMo.out, h⟩)
    clear HD1 HC1 HO1 HSet HFr HTl HMo HY
    rcases HTx.out with h | ⟨h, h2⟩
    all_goals
      rw [h]
      clear h HTx
      by_cases hlt : sl.data.toList = []
      · have HR2 := Lib.hid (HRR.out (.inl hlt))
        have hle : sl.toList.isEmpty = true := by rw [Lib.toList_data, hlt]; rfl
        have hle2 : (sl.toList == []) = true := by rw [Lib.toList_data, hlt]; rfl
        clear HRR HN hlt
        go_wp2_with fail
        go_meet
        exact ⟨.inr ⟨by simp [hm3, hm4], HR2⟩, rfl⟩
      · have hle : sl.toList.isEmpty = false := by rw [Lib.toList_data]; cases h : sl.data.toList with | nil => exact absurd h hlt | cons a l => rfl
        have HLt := Lib.hid hlt
        clear hlt
        go_wp2_with fail
        refine (HLe.out _).mono ?_
        rintro e w6 ⟨rfl, rfl⟩
        cases hlx : ofB 1 4 1 sl.data.toList
        · have HR := Lib.hid (HN.out fun h => by rcases h.lett with h | h; exact HLt.out h; exact Bool.noConfusion (hlx.symm.trans h))
          clear HRR HN hlx HLt
          go_wp2_with fail
          go_meet
          exact ⟨.inl ⟨by simp [hm3, hm4], HR⟩, rfl⟩
        · have HR2 := Lib.hid (HRR.out (.inr hlx))
          clear HRR HN hlx HLt
          go_wp2_with fail
          go_meet
          exact ⟨.inr ⟨by simp [hm3, hm4], HR2⟩, rfl⟩
  case rest =>
    obtain ⟨hv, rfl⟩ := hcut
    clear HS HLe
    rcases hv with ⟨rfl, HR⟩ | ⟨rfl, HR⟩
    · clear HN HY HD HC HO
      go_wp2_with fail
      go_ret2
      exact ⟨by rw [HR.out]; rfl, HB3.out.2⟩
    · have HF := Lib.hid (show dt = dayText dk dw dd ∧ ct = clockT hs hb ∧ ot = offTx sv from
        ⟨by rcases HD.out with ⟨_, h⟩ | ⟨h, _⟩; exact (Prod.mk.inj h).1; exact absurd HR.out.day h, by rcases HC.out with ⟨_, h⟩ | ⟨h, _⟩; exact (Prod.mk.inj h).1; exact absurd HR.out.hour h, by rcases HO.out with ⟨_, h⟩ | ⟨h, _⟩; exact (Prod.mk.inj h).1; exact absurd HR.out.save h⟩)
      obtain ⟨nf, hnf, hf1, hf2⟩ := named_nat HR.out.frm
      have htn : ∃ n : Nat, tl = (n : Int) ∧ n ≤ 100000000 := by
        rcases HR.out.til with h | h
        · obtain ⟨n, h1, h2, h3⟩ := named_nat h
          exact ⟨n, h1, by omega⟩
        · exact ⟨1048576, h, by decide⟩
      obtain ⟨nt, hnt, ht1⟩ := htn
      simp only at hnf
      have HDf := Lib.hid (show ∀ W, Calls Tryz.prog 81 #[.int .i64 fr] W fun e w' => e = .returned (.string ⟨(Lib.decDigits nf).toArray⟩) ∧ Below W.heap.size W w' by rw [hnf]; exact r10digits_any nf (by omega))
      have HDt := Lib.hid (show ∀ W, Calls Tryz.prog 81 #[.int .i64 tl] W fun e w' => e = .returned (.string ⟨(Lib.decDigits nt).toArray⟩) ∧ Below W.heap.size W w' by rw [hnt]; exact r10digits_any nt ht1)
      have HMt := Lib.hid (fun W => rmonthText_any mo W)
      have hItoa : Lib.itoa fr = Lib.decDigits nf := by rw [hnf, itoa_nat]
      have HRF := Lib.hid (show R = (joinS [ruleB, sn.data.toList, Lib.decDigits nf, lastT fr tl, [45], monthT mo, dt, ct, ot, lettT sl.data.toList], 0) by rw [HY.out HR.out, HF.out.1, HF.out.2.1, HF.out.2.2, ← hItoa]; rfl)
      have hlens := fields_len HR.out
      have hx0 : sn.data.toList.length ≤ 30 := hlens _ (by simp [ruleFs])
      have hx1 : (Lib.decDigits nf).length ≤ 30 := by rw [← hItoa]; exact hlens _ (by simp [ruleFs])
      have hx2 : (lastT fr tl).length ≤ 30 := hlens _ (by simp [ruleFs])
      have hx3 : (monthT mo).length ≤ 30 := hlens _ (by simp [ruleFs])
      have hx4 : dt.length ≤ 30 := by rw [HF.out.1]; exact hlens _ (by simp [ruleFs])
      have hx5 : ct.length ≤ 30 := by rw [HF.out.2.1]; exact hlens _ (by simp [ruleFs])
      have hx6 : ot.length ≤ 30 := by rw [HF.out.2.2]; exact hlens _ (by simp [ruleFs])
      have hx7 : (lettT sl.data.toList).length ≤ 30 := hlens _ (by simp [ruleFs])
      obtain ⟨b1, hb1⟩ : ∃ b, (tl == fr) = b := ⟨_, rfl⟩
      obtain ⟨b2, hb2⟩ : ∃ b, (tl == 1048576) = b := ⟨_, rfl⟩
      have HLs := Lib.hid (show lastT fr tl = if b1 = true then onlyB else if b2 = true then maxB else Lib.decDigits nt by
        unfold lastT
        rw [← hb1, ← hb2, show Lib.itoa tl = Lib.decDigits nt by rw [hnt, itoa_nat]]
        simp only [beq_iff_eq])
      have HB12 := Lib.hid (show ¬ (b1 = true ∧ b2 = true) by rw [← hb1, ← hb2, beq_iff_eq, beq_iff_eq]; omega)
      clear hlens HN HY HD HC HO HF HR ht1 hItoa hnf hnt hf1 hf2
      generalize lastT fr tl = t2 at *
      generalize hT7 : lettT sl.data.toList = t7 at *
      generalize monthT mo = t3 at *
      generalize Lib.decDigits nf = t1 at *
      generalize Lib.decDigits nt = t0 at *
      have HT7 := Lib.hid hT7
      clear hT7
      have hy0 : sn.size ≤ 30 := hx0
      clear hx0
      have c2 : w3.cell? ⟨w.heap.size, 2, none⟩ = some (.int .i64 tl) := HB3.out.1.cell_ rfl
      go_wp2_with fail
      refine (HDt.out _).mono ?_
      rintro e w4 ⟨rfl, hb4⟩
      have HB4 := Lib.hid (And.intro (HB3.out.1.below hb4 HB3.out.1.lt) (HB3.out.2.trans (hb4.mono HB3.out.2.size)))
      clear hb4 HB3 c2 HDt
      have c1 : w4.cell? ⟨w.heap.size, 1, none⟩ = some (.int .i64 fr) := HB4.out.1.cell_ rfl
      have c2 : w4.cell? ⟨w.heap.size, 2, none⟩ = some (.int .i64 tl) := HB4.out.1.cell_ rfl
      have c10 : w4.cell? ⟨w.heap.size, 10, none⟩ = some (.string sl) := HB4.out.1.cell_ rfl
      go_upto_if 91 with fail
      go_cut [10] (fun s10 wx => s10 = .string ⟨(if b1 = true then onlyB else t0).toArray⟩ ∧ w4 = wx)
      case first =>
        cases b1
        all_goals
          go_wp2_with fail
          go_meet
          first | exact ⟨rfl, rfl⟩ | exact ⟨rfl, trivial⟩
      case rest =>
        obtain ⟨rfl, rfl⟩ := hcut
        go_upto_if 94 with fail
        go_cut [10] (fun s10 wx => s10 = .string ⟨t2.toArray⟩ ∧ w4 = wx)
        case first =>
          have hbb := nand_cases HB12.out
          rcases hbb with ⟨rfl, rfl⟩ | ⟨rfl, rfl⟩ | ⟨rfl, rfl⟩
          all_goals
            go_wp2_with fail
            go_meet
            refine ⟨?_, ?_⟩
            · rw [HLs.out]; rfl
            · first | rfl | trivial
        case rest =>
          obtain ⟨rfl, rfl⟩ := hcut
          clear HLs HB12 hb1 hb2
          obtain ⟨b3, hb3⟩ : ∃ b, sl.toList.isEmpty = b := ⟨_, rfl⟩
          have HL7 := Lib.hid (show (⟨t7.toArray⟩ : ByteArray) = if b3 = true then ⟨#[45]⟩ else sl by
            rw [← HT7.out, ← hb3, Lib.toList_data, lettT]
            cases h : sl.data.toList with
            | nil => rfl
            | cons a l => rw [← h]; simp [h]; rw [← h])
          have hb4 : (sl.toList == []) = b3 := by
            rw [← hb3, Lib.toList_data]
            cases sl.data.toList <;> rfl
          go_upto_if 98 with fail
          go_cut [11] (fun s11 wx => s11 = .string ⟨t7.toArray⟩ ∧ w4 = wx)
          case first =>
            cases b3
            all_goals
              go_wp2_with fail
              go_meet
              first | exact ⟨by rw [HL7.out]; rfl, rfl⟩ | exact ⟨by rw [HL7.out]; rfl, trivial⟩
          case rest =>
            obtain ⟨rfl, rfl⟩ := hcut
            clear HL7 HT7 hb3 hb4 c1 c2 c10
            have HSt := Lib.hid (line_bytes sn t1 t2 t3 dt ct ot t7)
            generalize hz1 : (⟨t1.toArray⟩ : ByteArray) = z1 at *
            have hy1 : z1.size ≤ 30 := by rw [← hz1]; exact hx1
            clear hz1
            generalize hz1 : (⟨t2.toArray⟩ : ByteArray) = z2 at *
            have hy2 : z2.size ≤ 30 := by rw [← hz1]; exact hx2
            clear hz1
            generalize hz1 : (⟨t3.toArray⟩ : ByteArray) = z3 at *
            have hy3 : z3.size ≤ 30 := by rw [← hz1]; exact hx3
            clear hz1
            generalize hz1 : (⟨dt.toArray⟩ : ByteArray) = z4 at *
            have hy4 : z4.size ≤ 30 := by rw [← hz1]; exact hx4
            clear hz1
            generalize hz1 : (⟨ct.toArray⟩ : ByteArray) = z5 at *
            have hy5 : z5.size ≤ 30 := by rw [← hz1]; exact hx5
            clear hz1
            generalize hz1 : (⟨ot.toArray⟩ : ByteArray) = z6 at *
            have hy6 : z6.size ≤ 30 := by rw [← hz1]; exact hx6
            clear hz1
            generalize hz1 : (⟨t7.toArray⟩ : ByteArray) = z7 at *
            have hy7 : z7.size ≤ 30 := by rw [← hz1]; exact hx7
            clear hz1 hx1 hx2 hx3 hx4 hx5 hx6 hx7
            go_upto_region 14 with fail
            refine wp_region_rels 28 [[], [], [], [], [], [], [], [], [], [], [], [], [], [], [], [], [], [], [], [], [], [], [], [], [], [], [], []] [Form.val, Form.val, Form.val, Form.val, Form.val, Form.val, Form.val, Form.val, Form.val, Form.val, Form.val, Form.val, Form.val, Form.val, Form.val, Form.val, Form.val, Form.val, Form.val, Form.val, Form.val, Form.val, Form.val, Form.val, Form.val, Form.val, Form.val, Form.val] (fun W => Blk W w.heap.size 47 #[.string sn, .int .i64 fr, .int .i64 tl, .int .i64 mo, .int .i64 dk, .int .i64 dw, .int .i64 dd, .int .i64 hs, .int .i64 hb, .int .i64 sv, .string sl] ∧ Below w.heap.size w W) (by kernel_rfl) (by kernel_rfl) rfl rfl (⟨HB4.out.1, HB4.out.2.drew⟩) (fun W W' h hb => ⟨h.1.below hb h.1.lt, h.2.trans (hb.mono h.2.size)⟩) trivial ?_
            repeat (first | apply exSpec_rel | apply exSpec_new | apply exSpec_val)
            apply relWalk_ex rfl ?o0 (fun K hK => ?n0)
            case o0 =>
              intro W hC hF
              have c0 : W.cell? ⟨w.heap.size, 0, none⟩ = some (.string sn) := hC.1.cell_ rfl
              have c1 : W.cell? ⟨w.heap.size, 1, none⟩ = some (.int .i64 fr) := hC.1.cell_ rfl
              have c3 : W.cell? ⟨w.heap.size, 3, none⟩ = some (.int .i64 mo) := hC.1.cell_ rfl
              go_simp
              all_goals (first | exact ⟨Below.refl _ _, rfl⟩ | (rw [if_neg (by omega)]; exact ⟨Below.refl _ _, rfl⟩))
            case' n0 =>
              go_simp
              refine hK _ ?_
              clear hK K
            apply relWalk_ex rfl ?o1 (fun K hK => ?n1)
            case o1 =>
              intro W hC hF
              have c0 : W.cell? ⟨w.heap.size, 0, none⟩ = some (.string sn) := hC.1.cell_ rfl
              have c1 : W.cell? ⟨w.heap.size, 1, none⟩ = some (.int .i64 fr) := hC.1.cell_ rfl
              have c3 : W.cell? ⟨w.heap.size, 3, none⟩ = some (.int .i64 mo) := hC.1.cell_ rfl
              go_simp
              all_goals (first | exact ⟨Below.refl _ _, rfl⟩ | (rw [if_neg (by omega)]; exact ⟨Below.refl _ _, rfl⟩))
            case' n1 =>
              go_simp
              refine hK _ ?_
              clear hK K
            apply relWalk_ex rfl ?o2 (fun K hK => ?n2)
            case o2 =>
              intro W hC hF
              have c0 : W.cell? ⟨w.heap.size, 0, none⟩ = some (.string sn) := hC.1.cell_ rfl
              have c1 : W.cell? ⟨w.heap.size, 1, none⟩ = some (.int .i64 fr) := hC.1.cell_ rfl
              have c3 : W.cell? ⟨w.heap.size, 3, none⟩ = some (.int .i64 mo) := hC.1.cell_ rfl
              go_simp
              all_goals (first | exact ⟨Below.refl _ _, rfl⟩ | (rw [if_neg (by omega)]; exact ⟨Below.refl _ _, rfl⟩))
            case' n2 =>
              go_simp
              refine hK _ ?_
              clear hK K
            apply relWalk_ex rfl ?o3 (fun K hK => ?n3)
            case o3 =>
              intro W hC hF
              have c0 : W.cell? ⟨w.heap.size, 0, none⟩ = some (.string sn) := hC.1.cell_ rfl
              have c1 : W.cell? ⟨w.heap.size, 1, none⟩ = some (.int .i64 fr) := hC.1.cell_ rfl
              have c3 : W.cell? ⟨w.heap.size, 3, none⟩ = some (.int .i64 mo) := hC.1.cell_ rfl
              go_simp
              all_goals (first | exact ⟨Below.refl _ _, rfl⟩ | (rw [if_neg (by omega)]; exact ⟨Below.refl _ _, rfl⟩))
            case' n3 =>
              go_simp
              refine hK _ ?_
              clear hK K
            apply relWalk_ex rfl ?o4 (fun K hK => ?n4)
            case o4 =>
              intro W hC hF
              have c0 : W.cell? ⟨w.heap.size, 0, none⟩ = some (.string sn) := hC.1.cell_ rfl
              have c1 : W.cell? ⟨w.heap.size, 1, none⟩ = some (.int .i64 fr) := hC.1.cell_ rfl
              have c3 : W.cell? ⟨w.heap.size, 3, none⟩ = some (.int .i64 mo) := hC.1.cell_ rfl
              go_simp
              all_goals (first | exact ⟨Below.refl _ _, rfl⟩ | (rw [if_neg (by omega)]; exact ⟨Below.refl _ _, rfl⟩))
            case' n4 =>
              go_simp
              refine hK _ ?_
              clear hK K
            apply relWalk_ex rfl ?o5 (fun K hK => ?n5)
            case o5 =>
              intro W hC hF
              have c0 : W.cell? ⟨w.heap.size, 0, none⟩ = some (.string sn) := hC.1.cell_ rfl
              have c1 : W.cell? ⟨w.heap.size, 1, none⟩ = some (.int .i64 fr) := hC.1.cell_ rfl
              have c3 : W.cell? ⟨w.heap.size, 3, none⟩ = some (.int .i64 mo) := hC.1.cell_ rfl
              go_simp
              all_goals (first | exact ⟨Below.refl _ _, rfl⟩ | (rw [if_neg (by omega)]; exact ⟨Below.refl _ _, rfl⟩))
            case' n5 =>
              go_simp
              refine hK _ ?_
              clear hK K
            apply relWalk_ex rfl ?o6 (fun K hK => ?n6)
            case o6 =>
              intro W hC hF
              have c0 : W.cell? ⟨w.heap.size, 0, none⟩ = some (.string sn) := hC.1.cell_ rfl
              have c1 : W.cell? ⟨w.heap.size, 1, none⟩ = some (.int .i64 fr) := hC.1.cell_ rfl
              have c3 : W.cell? ⟨w.heap.size, 3, none⟩ = some (.int .i64 mo) := hC.1.cell_ rfl
              go_simp
              all_goals exact HDf.out W
            case' n6 =>
              go_simp
              refine hK _ ?_
              clear hK K
            apply relWalk_ex rfl ?o7 (fun K hK => ?n7)
            case o7 =>
              intro W hC hF
              have c0 : W.cell? ⟨w.heap.size, 0, none⟩ = some (.string sn) := hC.1.cell_ rfl
              have c1 : W.cell? ⟨w.heap.size, 1, none⟩ = some (.int .i64 fr) := hC.1.cell_ rfl
              have c3 : W.cell? ⟨w.heap.size, 3, none⟩ = some (.int .i64 mo) := hC.1.cell_ rfl
              go_simp
              all_goals (first | exact ⟨Below.refl _ _, rfl⟩ | (rw [if_neg (by omega)]; exact ⟨Below.refl _ _, rfl⟩))
            case' n7 =>
              go_simp
              refine hK _ ?_
              clear hK K
            apply relWalk_ex rfl ?o8 (fun K hK => ?n8)
            case o8 =>
              intro W hC hF
              have c0 : W.cell? ⟨w.heap.size, 0, none⟩ = some (.string sn) := hC.1.cell_ rfl
              have c1 : W.cell? ⟨w.heap.size, 1, none⟩ = some (.int .i64 fr) := hC.1.cell_ rfl
              have c3 : W.cell? ⟨w.heap.size, 3, none⟩ = some (.int .i64 mo) := hC.1.cell_ rfl
              go_simp
              all_goals (first | exact ⟨Below.refl _ _, rfl⟩ | (rw [if_neg (by omega)]; exact ⟨Below.refl _ _, rfl⟩))
            case' n8 =>
              go_simp
              refine hK _ ?_
              clear hK K
            apply relWalk_ex rfl ?o9 (fun K hK => ?n9)
            case o9 =>
              intro W hC hF
              have c0 : W.cell? ⟨w.heap.size, 0, none⟩ = some (.string sn) := hC.1.cell_ rfl
              have c1 : W.cell? ⟨w.heap.size, 1, none⟩ = some (.int .i64 fr) := hC.1.cell_ rfl
              have c3 : W.cell? ⟨w.heap.size, 3, none⟩ = some (.int .i64 mo) := hC.1.cell_ rfl
              go_simp
              all_goals (first | exact ⟨Below.refl _ _, rfl⟩ | (rw [if_neg (by omega)]; exact ⟨Below.refl _ _, rfl⟩))
            case' n9 =>
              go_simp
              refine hK _ ?_
              clear hK K
            apply relWalk_ex rfl ?o10 (fun K hK => ?n10)
            case o10 =>
              intro W hC hF
              have c0 : W.cell? ⟨w.heap.size, 0, none⟩ = some (.string sn) := hC.1.cell_ rfl
              have c1 : W.cell? ⟨w.heap.size, 1, none⟩ = some (.int .i64 fr) := hC.1.cell_ rfl
              have c3 : W.cell? ⟨w.heap.size, 3, none⟩ = some (.int .i64 mo) := hC.1.cell_ rfl
              go_simp
              all_goals (first | exact ⟨Below.refl _ _, rfl⟩ | (rw [if_neg (by omega)]; exact ⟨Below.refl _ _, rfl⟩))
            case' n10 =>
              go_simp
              refine hK _ ?_
              clear hK K
            apply relWalk_ex rfl ?o11 (fun K hK => ?n11)
            case o11 =>
              intro W hC hF
              have c0 : W.cell? ⟨w.heap.size, 0, none⟩ = some (.string sn) := hC.1.cell_ rfl
              have c1 : W.cell? ⟨w.heap.size, 1, none⟩ = some (.int .i64 fr) := hC.1.cell_ rfl
              have c3 : W.cell? ⟨w.heap.size, 3, none⟩ = some (.int .i64 mo) := hC.1.cell_ rfl
              go_simp
              all_goals (first | exact ⟨Below.refl _ _, rfl⟩ | (rw [if_neg (by omega)]; exact ⟨Below.refl _ _, rfl⟩))
            case' n11 =>
              go_simp
              refine hK _ ?_
              clear hK K
            apply relWalk_ex rfl ?o12 (fun K hK => ?n12)
            case o12 =>
              intro W hC hF
              have c0 : W.cell? ⟨w.heap.size, 0, none⟩ = some (.string sn) := hC.1.cell_ rfl
              have c1 : W.cell? ⟨w.heap.size, 1, none⟩ = some (.int .i64 fr) := hC.1.cell_ rfl
              have c3 : W.cell? ⟨w.heap.size, 3, none⟩ = some (.int .i64 mo) := hC.1.cell_ rfl
              go_simp
              all_goals (first | exact ⟨Below.refl _ _, rfl⟩ | (rw [if_neg (by omega)]; exact ⟨Below.refl _ _, rfl⟩))
            case' n12 =>
              go_simp
              refine hK _ ?_
              clear hK K
            apply relWalk_ex rfl ?o13 (fun K hK => ?n13)
            case o13 =>
              intro W hC hF
              have c0 : W.cell? ⟨w.heap.size, 0, none⟩ = some (.string sn) := hC.1.cell_ rfl
              have c1 : W.cell? ⟨w.heap.size, 1, none⟩ = some (.int .i64 fr) := hC.1.cell_ rfl
              have c3 : W.cell? ⟨w.heap.size, 3, none⟩ = some (.int .i64 mo) := hC.1.cell_ rfl
              go_simp
              all_goals (first | exact ⟨Below.refl _ _, rfl⟩ | (rw [if_neg (by omega)]; exact ⟨Below.refl _ _, rfl⟩))
            case' n13 =>
              go_simp
              refine hK _ ?_
              clear hK K
            apply relWalk_ex rfl ?o14 (fun K hK => ?n14)
            case o14 =>
              intro W hC hF
              have c0 : W.cell? ⟨w.heap.size, 0, none⟩ = some (.string sn) := hC.1.cell_ rfl
              have c1 : W.cell? ⟨w.heap.size, 1, none⟩ = some (.int .i64 fr) := hC.1.cell_ rfl
              have c3 : W.cell? ⟨w.heap.size, 3, none⟩ = some (.int .i64 mo) := hC.1.cell_ rfl
              go_simp
              all_goals exact HMt.out W
            case' n14 =>
              go_simp
              refine hK _ ?_
              clear hK K
            apply relWalk_ex rfl ?o15 (fun K hK => ?n15)
            case o15 =>
              intro W hC hF
              have c0 : W.cell? ⟨w.heap.size, 0, none⟩ = some (.string sn) := hC.1.cell_ rfl
              have c1 : W.cell? ⟨w.heap.size, 1, none⟩ = some (.int .i64 fr) := hC.1.cell_ rfl
              have c3 : W.cell? ⟨w.heap.size, 3, none⟩ = some (.int .i64 mo) := hC.1.cell_ rfl
              go_simp
              all_goals (first | exact ⟨Below.refl _ _, rfl⟩ | (rw [if_neg (by omega)]; exact ⟨Below.refl _ _, rfl⟩))
            case' n15 =>
              go_simp
              refine hK _ ?_
              clear hK K
            apply relWalk_ex rfl ?o16 (fun K hK => ?n16)
            case o16 =>
              intro W hC hF
              have c0 : W.cell? ⟨w.heap.size, 0, none⟩ = some (.string sn) := hC.1.cell_ rfl
              have c1 : W.cell? ⟨w.heap.size, 1, none⟩ = some (.int .i64 fr) := hC.1.cell_ rfl
              have c3 : W.cell? ⟨w.heap.size, 3, none⟩ = some (.int .i64 mo) := hC.1.cell_ rfl
              go_simp
              all_goals (first | exact ⟨Below.refl _ _, rfl⟩ | (rw [if_neg (by omega)]; exact ⟨Below.refl _ _, rfl⟩))
            case' n16 =>
              go_simp
              refine hK _ ?_
              clear hK K
            apply relWalk_ex rfl ?o17 (fun K hK => ?n17)
            case o17 =>
              intro W hC hF
              have c0 : W.cell? ⟨w.heap.size, 0, none⟩ = some (.string sn) := hC.1.cell_ rfl
              have c1 : W.cell? ⟨w.heap.size, 1, none⟩ = some (.int .i64 fr) := hC.1.cell_ rfl
              have c3 : W.cell? ⟨w.heap.size, 3, none⟩ = some (.int .i64 mo) := hC.1.cell_ rfl
              go_simp
              all_goals (first | exact ⟨Below.refl _ _, rfl⟩ | (rw [if_neg (by omega)]; exact ⟨Below.refl _ _, rfl⟩))
            case' n17 =>
              go_simp
              refine hK _ ?_
              clear hK K
            apply relWalk_ex rfl ?o18 (fun K hK => ?n18)
            case o18 =>
              intro W hC hF
              have c0 : W.cell? ⟨w.heap.size, 0, none⟩ = some (.string sn) := hC.1.cell_ rfl
              have c1 : W.cell? ⟨w.heap.size, 1, none⟩ = some (.int .i64 fr) := hC.1.cell_ rfl
              have c3 : W.cell? ⟨w.heap.size, 3, none⟩ = some (.int .i64 mo) := hC.1.cell_ rfl
              go_simp
              all_goals (first | exact ⟨Below.refl _ _, rfl⟩ | (rw [if_neg (by omega)]; exact ⟨Below.refl _ _, rfl⟩))
            case' n18 =>
              go_simp
              refine hK _ ?_
              clear hK K
            apply relWalk_ex rfl ?o19 (fun K hK => ?n19)
            case o19 =>
              intro W hC hF
              have c0 : W.cell? ⟨w.heap.size, 0, none⟩ = some (.string sn) := hC.1.cell_ rfl
              have c1 : W.cell? ⟨w.heap.size, 1, none⟩ = some (.int .i64 fr) := hC.1.cell_ rfl
              have c3 : W.cell? ⟨w.heap.size, 3, none⟩ = some (.int .i64 mo) := hC.1.cell_ rfl
              go_simp
              all_goals (first | exact ⟨Below.refl _ _, rfl⟩ | (rw [if_neg (by omega)]; exact ⟨Below.refl _ _, rfl⟩))
            case' n19 =>
              go_simp
              refine hK _ ?_
              clear hK K
            apply relWalk_ex rfl ?o20 (fun K hK => ?n20)
            case o20 =>
              intro W hC hF
              have c0 : W.cell? ⟨w.heap.size, 0, none⟩ = some (.string sn) := hC.1.cell_ rfl
              have c1 : W.cell? ⟨w.heap.size, 1, none⟩ = some (.int .i64 fr) := hC.1.cell_ rfl
              have c3 : W.cell? ⟨w.heap.size, 3, none⟩ = some (.int .i64 mo) := hC.1.cell_ rfl
              go_simp
              all_goals (first | exact ⟨Below.refl _ _, rfl⟩ | (rw [if_neg (by omega)]; exact ⟨Below.refl _ _, rfl⟩))
            case' n20 =>
              go_simp
              refine hK _ ?_
              clear hK K
            apply relWalk_ex rfl ?o21 (fun K hK => ?n21)
            case o21 =>
              intro W hC hF
              have c0 : W.cell? ⟨w.heap.size, 0, none⟩ = some (.string sn) := hC.1.cell_ rfl
              have c1 : W.cell? ⟨w.heap.size, 1, none⟩ = some (.int .i64 fr) := hC.1.cell_ rfl
              have c3 : W.cell? ⟨w.heap.size, 3, none⟩ = some (.int .i64 mo) := hC.1.cell_ rfl
              go_simp
              all_goals (first | exact ⟨Below.refl _ _, rfl⟩ | (rw [if_neg (by omega)]; exact ⟨Below.refl _ _, rfl⟩))
            case' n21 =>
              go_simp
              refine hK _ ?_
              clear hK K
            apply relWalk_ex rfl ?o22 (fun K hK => ?n22)
            case o22 =>
              intro W hC hF
              have c0 : W.cell? ⟨w.heap.size, 0, none⟩ = some (.string sn) := hC.1.cell_ rfl
              have c1 : W.cell? ⟨w.heap.size, 1, none⟩ = some (.int .i64 fr) := hC.1.cell_ rfl
              have c3 : W.cell? ⟨w.heap.size, 3, none⟩ = some (.int .i64 mo) := hC.1.cell_ rfl
              go_simp
              all_goals (first | exact ⟨Below.refl _ _, rfl⟩ | (rw [if_neg (by omega)]; exact ⟨Below.refl _ _, rfl⟩))
            case' n22 =>
              go_simp
              refine hK _ ?_
              clear hK K
            apply relWalk_ex rfl ?o23 (fun K hK => ?n23)
            case o23 =>
              intro W hC hF
              have c0 : W.cell? ⟨w.heap.size, 0, none⟩ = some (.string sn) := hC.1.cell_ rfl
              have c1 : W.cell? ⟨w.heap.size, 1, none⟩ = some (.int .i64 fr) := hC.1.cell_ rfl
              have c3 : W.cell? ⟨w.heap.size, 3, none⟩ = some (.int .i64 mo) := hC.1.cell_ rfl
              go_simp
              all_goals (first | exact ⟨Below.refl _ _, rfl⟩ | (rw [if_neg (by omega)]; exact ⟨Below.refl _ _, rfl⟩))
            case' n23 =>
              go_simp
              refine hK _ ?_
              clear hK K
            apply relWalk_ex rfl ?o24 (fun K hK => ?n24)
            case o24 =>
              intro W hC hF
              have c0 : W.cell? ⟨w.heap.size, 0, none⟩ = some (.string sn) := hC.1.cell_ rfl
              have c1 : W.cell? ⟨w.heap.size, 1, none⟩ = some (.int .i64 fr) := hC.1.cell_ rfl
              have c3 : W.cell? ⟨w.heap.size, 3, none⟩ = some (.int .i64 mo) := hC.1.cell_ rfl
              go_simp
              all_goals (first | exact ⟨Below.refl _ _, rfl⟩ | (rw [if_neg (by omega)]; exact ⟨Below.refl _ _, rfl⟩))
            case' n24 =>
              go_simp
              refine hK _ ?_
              clear hK K
            apply relWalk_ex rfl ?o25 (fun K hK => ?n25)
            case o25 =>
              intro W hC hF
              have c0 : W.cell? ⟨w.heap.size, 0, none⟩ = some (.string sn) := hC.1.cell_ rfl
              have c1 : W.cell? ⟨w.heap.size, 1, none⟩ = some (.int .i64 fr) := hC.1.cell_ rfl
              have c3 : W.cell? ⟨w.heap.size, 3, none⟩ = some (.int .i64 mo) := hC.1.cell_ rfl
              go_simp
              all_goals (first | exact ⟨Below.refl _ _, rfl⟩ | (rw [if_neg (by omega)]; exact ⟨Below.refl _ _, rfl⟩))
            case' n25 =>
              go_simp
              refine hK _ ?_
              clear hK K
            apply relWalk_ex rfl ?o26 (fun K hK => ?n26)
            case o26 =>
              intro W hC hF
              have c0 : W.cell? ⟨w.heap.size, 0, none⟩ = some (.string sn) := hC.1.cell_ rfl
              have c1 : W.cell? ⟨w.heap.size, 1, none⟩ = some (.int .i64 fr) := hC.1.cell_ rfl
              have c3 : W.cell? ⟨w.heap.size, 3, none⟩ = some (.int .i64 mo) := hC.1.cell_ rfl
              go_simp
              all_goals (first | exact ⟨Below.refl _ _, rfl⟩ | (rw [if_neg (by omega)]; exact ⟨Below.refl _ _, rfl⟩))
            case' n26 =>
              go_simp
              refine hK _ ?_
              clear hK K
            apply relWalk_ex rfl ?o27 (fun K hK => ?n27)
            case o27 =>
              intro W hC hF
              have c0 : W.cell? ⟨w.heap.size, 0, none⟩ = some (.string sn) := hC.1.cell_ rfl
              have c1 : W.cell? ⟨w.heap.size, 1, none⟩ = some (.int .i64 fr) := hC.1.cell_ rfl
              have c3 : W.cell? ⟨w.heap.size, 3, none⟩ = some (.int .i64 mo) := hC.1.cell_ rfl
              go_simp
              all_goals (first | exact ⟨Below.refl _ _, rfl⟩ | (rw [if_neg (by omega)]; exact ⟨Below.refl _ _, rfl⟩))
            case' n27 =>
              go_simp
              refine hK _ ?_
              clear hK K
            apply relWalk_end
            intro W hC hF hU
            clear hF hU
            have HW := Lib.hid hC
            clear hC
            go_wp2_with fail
            go_ret2
            exact ⟨by rw [HRF.out, ← HSt.out]; rfl, HW.out.2⟩
end Go.Proofs.YtmcgbjjcpcgcfaaGreatDoor
