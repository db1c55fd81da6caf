/-
  The law EralineRead: what the call returns.
-/
import Derived.Test.YtbdmieelokmhiaaGreatDoorEraWorks
set_option linter.unusedVariables false
namespace Go.Proofs.YtbdmieelokmhiaaGreatDoor
open Go.RowKit

set_option maxRecDepth 100000 in
set_option maxHeartbeats 2000000 in
theorem ereads_any (A : Option Addr) (c : Nat) (ls : List (List UInt8)) (w : World) (hT : ETabs w) (hM : MaxL w) (hr : StrArg w A ls) (hcp : ls.length ≤ c) :
    Calls Tryz.prog 6 #[.slice A ls.length c] w fun e w' => e = .returned (.bool true) ∧ Below w.heap.size w w' := by
  have HT := Lib.hid (fun W (hW : Below w.heap.size w W) => And.intro (hT.below hW) (hM.below hW))
  have HW := Lib.hid (show ∀ W, Below w.heap.size w W → Calls Tryz.prog 10 #[] W fun e w' => e = .returned (.bool true) ∧ Below W.heap.size W w' from fun W hW => eworks_any W (hT.below hW) (hM.below hW))
  have hb0 : Below w.heap.size w w := Below.refl _ _
  have HR := Lib.hid hr
  have HA := Lib.hid (fun W (hW : Below w.heap.size w W) => hr.below hW)
  obtain ⟨n, hn⟩ : ∃ n, ls.length = n := ⟨_, rfl⟩
  rw [hn] at hcp ⊢
  clear hT hM hr
  by_cases h12 : 7 < n
  · go_enter Tryz.func6, Tryz.ntmps6
    go_wp2_with fail
    refine (HW.out _ hb0).mono ?_
    rintro e w1 ⟨rfl, hb1⟩
    go_wp2_with fail
    go_ret
    exact ⟨rfl, hb1⟩
  go_enter Tryz.func6, Tryz.ntmps6
  go_wp2_with fail
  go_loop [17] (fun i => ∃ k : Nat, k ≤ n ∧ i = .int .i64 (k : Int) ∧ Aside (∀ j l, j < k → ls[j]? = some l → l.length ≤ 40)) (fun i => n - (intOf i).toNat)
  case atStart => exact ⟨0, Nat.zero_le _, rfl, fun j l hj => absurd hj (by omega)⟩
  case round =>
    obtain ⟨k, hk, rfl, hall⟩ := hrel
    by_cases hlt : k < n
    · obtain ⟨l, hl⟩ : ∃ l, ls[k]? = some l := ⟨_, List.getElem?_eq_getElem (by omega)⟩
      obtain ⟨b, o, rfl, hrow⟩ := HR.out.row (by intro h; subst h; simp at hn; omega)
      have hcell := hrow.at_ k l hl
      obtain ⟨sl, rfl⟩ : ∃ sl : ByteArray, l = sl.data.toList := ⟨⟨l.toArray⟩, by simp⟩
      replace hcell : w.cell? ⟨b, o + k, none⟩ = some (.string sl) := hcell
      have HN := Lib.hid hall.out
      have HL := Lib.hid hl
      clear hall hl hrow
      by_cases h100 : 40 < sl.size
      · go_wp2_with fail
        refine (HW.out _ hb0).mono ?_
        rintro e w1 ⟨rfl, hb1⟩
        go_wp2_with fail
        go_ret
        exact ⟨rfl, hb1⟩
      · go_wp2_with fail
        go_round
        case rel =>
          refine ⟨k + 1, by omega, by go_num, fun j l hj hl => ?_⟩
          rcases Nat.lt_or_ge j k with h | h
          · exact HN.out j l h hl
          · obtain rfl : j = k := by omega
            rw [HL.out] at hl
            cases hl
            show sl.size ≤ 40
            omega
        case measure => simp [intOf]; omega
    · obtain rfl : n = k := by omega
      have HL := Lib.hid (show ∀ l ∈ ls, l.length ≤ 40 from fun l hl => by
        obtain ⟨j, hj⟩ := List.getElem?_of_mem hl
        refine hall.out j l ?_ hj
        rcases Nat.lt_or_ge j ls.length with h | h
        · omega
        · rw [List.getElem?_eq_none h] at hj; cases hj)
      have HP := Lib.hid (fun W (hW : Below w.heap.size w W) => eparse_any A n c ls W (HT.out W hW).1 (HA.out W hW) hn (fun l hl => by have := HL.out l hl; omega) (by omega))
      clear hall hk hlt HR HA hcp
      obtain ⟨RR, HRR⟩ : ∃ RR, eraR ls = RR := ⟨_, rfl⟩
      rw [HRR] at HP
      obtain ⟨⟨off, kd, sv, set, fmt, ⟨is, y, m, ⟨d1, d2, d3⟩, ⟨h1, h2⟩⟩⟩, x⟩ := RR
      obtain ⟨sn, rfl⟩ : ∃ sn : ByteArray, set = sn.data.toList := ⟨⟨set.toArray⟩, by simp⟩
      obtain ⟨sf, rfl⟩ : ∃ sf : ByteArray, fmt = sf.data.toList := ⟨⟨fmt.toArray⟩, by simp⟩
      replace HP := Lib.hid (show ∀ W, Below w.heap.size w W → Calls Tryz.prog 11 #[.slice A n c] W fun e w' => e = .returned (.tuple #[.agg #[.int .i64 off, .int .i64 kd, .int .i64 sv, .string sn, .string sf, .bool is, .int .i64 y, .int .i64 m, .int .i64 d1, .int .i64 d2, .int .i64 d3, .int .i64 h1, .int .i64 h2], .int .i64 x]) ∧ Below W.heap.size W w' from HP.out)
      by_cases hx : x = 0
      case neg =>
        have hz : (⟨off, kd, sv, sn.data.toList, sf.data.toList, ⟨is, y, m, (d1, d2, d3), (h1, h2)⟩⟩ : EraP) = EraP.none := by
          have := era_none (l := ls) (by rw [HRR]; exact hx)
          rwa [HRR] at this
        injection hz with a1 a2 a3 a4 a5 a6
        injection a6 with b1 b2 b3 b4 b5
        injection b4 with b6 b7
        injection b7 with b7 b8
        injection b5 with b9 b10
        subst a1 a2 a3 b1 b2 b3 b6 b7 b8 b9 b10
        obtain rfl : sn = ⟨#[]⟩ := str_of a4
        obtain rfl : sf = ⟨#[]⟩ := str_of a5
        have hx2 : (x != 0) = true := bne_iff_ne.2 hx
        clear HRR hn a4 a5 hx
        go_wp2_with fail
        refine (HP.out _ hb0).mono ?_
        rintro e w1 ⟨rfl, hb1⟩
        have HC1 := Lib.hid (rbelow_alloc hb1 (.cells #[.int .i64 0, .int .i64 0, .int .i64 0, .string ⟨#[]⟩, .string ⟨#[]⟩, .bool false, .int .i64 0, .int .i64 0, .int .i64 0, .int .i64 0, .int .i64 0, .int .i64 0, .int .i64 0] 31))
        clear hb1 hb0 HP
        go_wp2_with fail
        refine (HW.out _ HC1.out).mono ?_
        rintro e w4 ⟨rfl, hb4⟩
        have HZ := Lib.hid (HC1.out.trans (hb4.mono HC1.out.size))
        clear hb4 HC1
        go_wp2_with fail
        go_ret
        exact ⟨rfl, HZ.out⟩
      subst hx
      have HRi := Lib.hid (show EraRight ⟨off, kd, sv, sn.data.toList, sf.data.toList, ⟨is, y, m, (d1, d2, d3), (h1, h2)⟩⟩ from by
        have := (era_right (l := ls) (by rw [HRR])).1
        rwa [HRR] at this)
      obtain ⟨tx, htx⟩ : ∃ tx : ByteArray, eraT ⟨off, kd, sv, sn.data.toList, sf.data.toList, ⟨is, y, m, (d1, d2, d3), (h1, h2)⟩⟩ = tx.data.toList := asBa _
      have HPr := Lib.hid (show ∀ W, Below w.heap.size w W → Calls Tryz.prog 13 #[.agg #[.int .i64 off, .int .i64 kd, .int .i64 sv, .string sn, .string sf, .bool is, .int .i64 y, .int .i64 m, .int .i64 d1, .int .i64 d2, .int .i64 d3, .int .i64 h1, .int .i64 h2]] W fun e w' => e = .returned (.tuple #[.string tx, .int .i64 0]) ∧ Below W.heap.size W w' from fun W hW => by
        have h := eprint_any ⟨off, kd, sv, sn.data.toList, sf.data.toList, ⟨is, y, m, (d1, d2, d3), (h1, h2)⟩⟩ W (HT.out W hW).1 (by
          rcases Decidable.em (kd = 2) with hk | hk
          · have := set_len (HRi.out.set2 hk); simp only at this ⊢; omega
          · rw [HRi.out.set0 hk]; decide) (by have := (fmt_plain HRi.out.fmt).2.2; simp only at this ⊢; omega)
        rw [show eraPrintR ⟨off, kd, sv, sn.data.toList, sf.data.toList, ⟨is, y, m, (d1, d2, d3), (h1, h2)⟩⟩ = (eraT ⟨off, kd, sv, sn.data.toList, sf.data.toList, ⟨is, y, m, (d1, d2, d3), (h1, h2)⟩⟩, 0) from if_pos ((eraOk_iff _).2 HRi.out), htx] at h
        simpa [EraP.cells] using h)
      have htl : tx.size ≤ 1000 := by
        have := eraT_len HRi.out
        rw [htx] at this
        have h2 : tx.data.toList.length = tx.size := by simp
        omega
      have hcnt : Lib.count tx.data.toList [32] ≤ 100000 := by
        rw [← htx, (era_split HRi.out).1]
        have := (eraFs_len ⟨off, kd, sv, sn.data.toList, sf.data.toList, ⟨is, y, m, (d1, d2, d3), (h1, h2)⟩⟩).2
        omega
      have HSp := Lib.hid (fun W (hW : Below w.heap.size w W) => split_parse tx W (HT.out W hW).2 (HT.out W hW).1 (by omega) hcnt)
      rw [show eraR (splitW tx.data.toList) = (⟨off, kd, sv, sn.data.toList, sf.data.toList, ⟨is, y, m, (d1, d2, d3), (h1, h2)⟩⟩, 0) by rw [← htx, eraT_split HRi.out, era_back HRi.out]] at HSp
      clear HRR hn htx htl hcnt HRi HL
      go_wp2_with fail
      refine (HP.out _ hb0).mono ?_
      rintro e w1 ⟨rfl, hb1⟩
      have HC1 := Lib.hid (show Blk (w1.alloc (.cells #[.int .i64 off, .int .i64 kd, .int .i64 sv, .string sn, .string sf, .bool is, .int .i64 y, .int .i64 m, .int .i64 d1, .int .i64 d2, .int .i64 d3, .int .i64 h1, .int .i64 h2] 31)) w1.heap.size 31 #[.int .i64 off, .int .i64 kd, .int .i64 sv, .string sn, .string sf, .bool is, .int .i64 y, .int .i64 m, .int .i64 d1, .int .i64 d2, .int .i64 d3, .int .i64 h1, .int .i64 h2] ∧ Below w.heap.size w (w1.alloc (.cells #[.int .i64 off, .int .i64 kd, .int .i64 sv, .string sn, .string sf, .bool is, .int .i64 y, .int .i64 m, .int .i64 d1, .int .i64 d2, .int .i64 d3, .int .i64 h1, .int .i64 h2] 31)) from ⟨Blk.new' _ _ _ rfl, rbelow_alloc hb1 _⟩)
      clear hb1 hb0 HP
      go_upto_region 12 with fail
      go_wp2_with fail
      refine (HPr.out _ HC1.out.2).mono ?_
      rintro e w2 ⟨rfl, hb2⟩
      have HC2 := Lib.hid (show Blk w2 w1.heap.size 31 #[.int .i64 off, .int .i64 kd, .int .i64 sv, .string sn, .string sf, .bool is, .int .i64 y, .int .i64 m, .int .i64 d1, .int .i64 d2, .int .i64 d3, .int .i64 h1, .int .i64 h2] ∧ Below w.heap.size w w2 from ⟨HC1.out.1.below hb2 HC1.out.1.lt, HC1.out.2.trans (hb2.mono HC1.out.2.size)⟩)
      clear hb2 HC1 HPr
      go_wp2_with fail
      refine (HSp.out _ HC2.out.2).mono ?_
      rintro e w3 ⟨⟨g, nn, rfl, -, -, -, HPa⟩, hb3⟩
      have HC3 := Lib.hid (show Blk w3 w1.heap.size 31 #[.int .i64 off, .int .i64 kd, .int .i64 sv, .string sn, .string sf, .bool is, .int .i64 y, .int .i64 m, .int .i64 d1, .int .i64 d2, .int .i64 d3, .int .i64 h1, .int .i64 h2] ∧ Below w.heap.size w w3 from ⟨HC2.out.1.below hb3 HC2.out.1.lt, HC2.out.2.trans (hb3.mono HC2.out.2.size)⟩)
      clear hb3 HC2 HSp
      go_wp2_with fail
      refine HPa.out.mono ?_
      rintro e w4 ⟨rfl, hb4⟩
      simp only [EraP.cells, ba_list]
      have HC4 := Lib.hid (show Blk (w4.alloc (.cells #[.int .i64 off, .int .i64 kd, .int .i64 sv, .string sn, .string sf, .bool is, .int .i64 y, .int .i64 m, .int .i64 d1, .int .i64 d2, .int .i64 d3, .int .i64 h1, .int .i64 h2] 31)) w1.heap.size 31 #[.int .i64 off, .int .i64 kd, .int .i64 sv, .string sn, .string sf, .bool is, .int .i64 y, .int .i64 m, .int .i64 d1, .int .i64 d2, .int .i64 d3, .int .i64 h1, .int .i64 h2] ∧ Blk (w4.alloc (.cells #[.int .i64 off, .int .i64 kd, .int .i64 sv, .string sn, .string sf, .bool is, .int .i64 y, .int .i64 m, .int .i64 d1, .int .i64 d2, .int .i64 d3, .int .i64 h1, .int .i64 h2] 31)) w4.heap.size 31 #[.int .i64 off, .int .i64 kd, .int .i64 sv, .string sn, .string sf, .bool is, .int .i64 y, .int .i64 m, .int .i64 d1, .int .i64 d2, .int .i64 d3, .int .i64 h1, .int .i64 h2] ∧ Below w.heap.size w (w4.alloc (.cells #[.int .i64 off, .int .i64 kd, .int .i64 sv, .string sn, .string sf, .bool is, .int .i64 y, .int .i64 m, .int .i64 d1, .int .i64 d2, .int .i64 d3, .int .i64 h1, .int .i64 h2] 31)) from ⟨(HC3.out.1.below hb4 HC3.out.1.lt).alloc _, Blk.new' _ _ _ rfl, rbelow_alloc (HC3.out.2.trans (hb4.mono HC3.out.2.size)) _⟩)
      clear hb4 HC3 HPa
      go_upto_region 14 with fail
      generalize w4.alloc (.cells #[.int .i64 off, .int .i64 kd, .int .i64 sv, .string sn, .string sf, .bool is, .int .i64 y, .int .i64 m, .int .i64 d1, .int .i64 d2, .int .i64 d3, .int .i64 h1, .int .i64 h2] 31) = w5 at *
      generalize w1.heap.size = g1 at *
      generalize w4.heap.size = g2 at *
      have u0 : w5.cell? ⟨g1, 0, none⟩ = some (.int .i64 off) := HC4.out.1.cell_ rfl
      have u1 : w5.cell? ⟨g1, 1, none⟩ = some (.int .i64 kd) := HC4.out.1.cell_ rfl
      have u2 : w5.cell? ⟨g1, 2, none⟩ = some (.int .i64 sv) := HC4.out.1.cell_ rfl
      have u3 : w5.cell? ⟨g1, 3, none⟩ = some (.string sn) := HC4.out.1.cell_ rfl
      have u4 : w5.cell? ⟨g1, 4, none⟩ = some (.string sf) := HC4.out.1.cell_ rfl
      have u5 : w5.cell? ⟨g1, 5, none⟩ = some (.bool is) := HC4.out.1.cell_ rfl
      have u6 : w5.cell? ⟨g1, 6, none⟩ = some (.int .i64 y) := HC4.out.1.cell_ rfl
      have u7 : w5.cell? ⟨g1, 7, none⟩ = some (.int .i64 m) := HC4.out.1.cell_ rfl
      have u8 : w5.cell? ⟨g1, 8, none⟩ = some (.int .i64 d1) := HC4.out.1.cell_ rfl
      have u9 : w5.cell? ⟨g1, 9, none⟩ = some (.int .i64 d2) := HC4.out.1.cell_ rfl
      have u10 : w5.cell? ⟨g1, 10, none⟩ = some (.int .i64 d3) := HC4.out.1.cell_ rfl
      have u11 : w5.cell? ⟨g1, 11, none⟩ = some (.int .i64 h1) := HC4.out.1.cell_ rfl
      have u12 : w5.cell? ⟨g1, 12, none⟩ = some (.int .i64 h2) := HC4.out.1.cell_ rfl
      have v0 : w5.cell? ⟨g2, 0, none⟩ = some (.int .i64 off) := HC4.out.2.1.cell_ rfl
      have v1 : w5.cell? ⟨g2, 1, none⟩ = some (.int .i64 kd) := HC4.out.2.1.cell_ rfl
      have v2 : w5.cell? ⟨g2, 2, none⟩ = some (.int .i64 sv) := HC4.out.2.1.cell_ rfl
      have v3 : w5.cell? ⟨g2, 3, none⟩ = some (.string sn) := HC4.out.2.1.cell_ rfl
      have v4 : w5.cell? ⟨g2, 4, none⟩ = some (.string sf) := HC4.out.2.1.cell_ rfl
      have v5 : w5.cell? ⟨g2, 5, none⟩ = some (.bool is) := HC4.out.2.1.cell_ rfl
      have v6 : w5.cell? ⟨g2, 6, none⟩ = some (.int .i64 y) := HC4.out.2.1.cell_ rfl
      have v7 : w5.cell? ⟨g2, 7, none⟩ = some (.int .i64 m) := HC4.out.2.1.cell_ rfl
      have v8 : w5.cell? ⟨g2, 8, none⟩ = some (.int .i64 d1) := HC4.out.2.1.cell_ rfl
      have v9 : w5.cell? ⟨g2, 9, none⟩ = some (.int .i64 d2) := HC4.out.2.1.cell_ rfl
      have v10 : w5.cell? ⟨g2, 10, none⟩ = some (.int .i64 d3) := HC4.out.2.1.cell_ rfl
      have v11 : w5.cell? ⟨g2, 11, none⟩ = some (.int .i64 h1) := HC4.out.2.1.cell_ rfl
      have v12 : w5.cell? ⟨g2, 12, none⟩ = some (.int .i64 h2) := HC4.out.2.1.cell_ rfl
      go_wp2_with fail
      refine (HW.out _ HC4.out.2.2).mono ?_
      rintro e w6 ⟨rfl, hb6⟩
      have HZ := Lib.hid (HC4.out.2.2.trans (hb6.mono HC4.out.2.2.size))
      clear hb6 HC4
      go_wp2_with fail
      go_ret
      exact ⟨rfl, HZ.out⟩
end Go.Proofs.YtbdmieelokmhiaaGreatDoor
