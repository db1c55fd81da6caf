/-
  The law EralineParses: what the call returns.
-/
import Derived.Test.YtbdmieelokmhiaaGreatDoorEraWorks
import Derived.Test.YtbdmieelokmhiaaGreatDoorRefEraC
set_option linter.unusedVariables false
namespace Go.Proofs.YtbdmieelokmhiaaGreatDoor
open Go.RowKit

set_option maxRecDepth 100000 in
set_option maxHeartbeats 2000000 in
theorem eparses_any (A : Option Addr) (c : Nat) (ls : List (List UInt8)) (w : World) (hT : ETabs w) (hM : MaxL w) (hr : StrArg w A ls) (hcp : ls.length ≤ c) :
    Calls Tryz.prog 3 #[.slice A ls.length c] w fun e w' => e = .returned (.bool true) ∧ Below w.heap.size w w' := by
  have HT := Lib.hid (fun W (hW : Below w.heap.size w W) => And.intro (hT.below hW) (hM.below hW))
  have HW := Lib.hid (show ∀ W, Below w.heap.size w W → Calls Tryz.prog 10 #[] W fun e w' => e = .returned (.bool true) ∧ Below W.heap.size W w' from fun W hW => eworks_any W (hT.below hW) (hM.below hW))
  have hb0 : Below w.heap.size w w := Below.refl _ _
  have HR := Lib.hid hr
  have HA := Lib.hid (fun W (hW : Below w.heap.size w W) => hr.below hW)
  obtain ⟨n, hn⟩ : ∃ n, ls.length = n := ⟨_, rfl⟩
  rw [hn] at hcp ⊢
  clear hT hM hr
  by_cases h12 : 12 < n
  · go_enter Tryz.func3, Tryz.ntmps3
    go_wp2_with fail
    refine (HW.out _ hb0).mono ?_
    rintro e w1 ⟨rfl, hb1⟩
    go_wp2_with fail
    go_ret
    exact ⟨rfl, hb1⟩
  go_enter Tryz.func3, Tryz.ntmps3
  go_wp2_with fail
  go_loop [15] (fun i => ∃ k : Nat, k ≤ n ∧ i = .int .i64 (k : Int) ∧ Aside (∀ j l, j < k → ls[j]? = some l → l.length ≤ 100)) (fun i => n - (intOf i).toNat)
  case atStart => exact ⟨0, Nat.zero_le _, rfl, fun j l hj => absurd hj (by omega)⟩
  case round =>
    obtain ⟨k, hk, rfl, hall⟩ := hrel
    by_cases hlt : k < n
    · obtain ⟨l, hl⟩ : ∃ l, ls[k]? = some l := ⟨_, List.getElem?_eq_getElem (by omega)⟩
      obtain ⟨b, o, rfl, hrow⟩ := HR.out.row (by intro h; subst h; simp at hn; omega)
      have hcell := hrow.at_ k l hl
      obtain ⟨sl, rfl⟩ : ∃ sl : ByteArray, l = sl.data.toList := ⟨⟨l.toArray⟩, by simp⟩
      replace hcell : w.cell? ⟨b, o + k, none⟩ = some (.string sl) := hcell
      have HN := Lib.hid hall.out
      have HL := Lib.hid hl
      clear hall hl hrow
      by_cases h100 : 100 < sl.size
      · go_wp2_with fail
        refine (HW.out _ hb0).mono ?_
        rintro e w1 ⟨rfl, hb1⟩
        go_wp2_with fail
        go_ret
        exact ⟨rfl, hb1⟩
      · go_wp2_with fail
        go_round
        case rel =>
          refine ⟨k + 1, by omega, by go_num, fun j l hj hl => ?_⟩
          rcases Nat.lt_or_ge j k with h | h
          · exact HN.out j l h hl
          · obtain rfl : j = k := by omega
            rw [HL.out] at hl
            cases hl
            show sl.size ≤ 100
            omega
        case measure => simp [intOf]; omega
    · obtain rfl : n = k := by omega
      have HL := Lib.hid (show ∀ l ∈ ls, l.length ≤ 100 from fun l hl => by
        obtain ⟨j, hj⟩ := List.getElem?_of_mem hl
        refine hall.out j l ?_ hj
        rcases Nat.lt_or_ge j ls.length with h | h
        · omega
        · rw [List.getElem?_eq_none h] at hj; cases hj)
      have HP := Lib.hid (fun W (hW : Below w.heap.size w W) => eparse_any A n c ls W (HT.out W hW).1 (HA.out W hW) hn (fun l hl => by have := HL.out l hl; omega) (by omega))
      have HQ := Lib.hid (fun W (hW : Below w.heap.size w W) => r11parse_any A n c ls W (HA.out W hW) hn hcp (fun l hl => by have := HL.out l hl; omega) (by omega))
      clear hall hk hlt HR HA hn hcp
      generalize eraR ls = RR at *
      obtain ⟨⟨off, kd, sv, set, fmt, ⟨is, y, m, ⟨d1, d2, d3⟩, ⟨h1, h2⟩⟩⟩, x⟩ := RR
      obtain ⟨sn, rfl⟩ : ∃ sn : ByteArray, set = sn.data.toList := ⟨⟨set.toArray⟩, by simp⟩
      obtain ⟨sf, rfl⟩ : ∃ sf : ByteArray, fmt = sf.data.toList := ⟨⟨fmt.toArray⟩, by simp⟩
      replace HP := Lib.hid (show ∀ W, Below w.heap.size w W → Calls Tryz.prog 11 #[.slice A n c] W fun e w' => e = .returned (.tuple #[.agg #[.int .i64 off, .int .i64 kd, .int .i64 sv, .string sn, .string sf, .bool is, .int .i64 y, .int .i64 m, .int .i64 d1, .int .i64 d2, .int .i64 d3, .int .i64 h1, .int .i64 h2], .int .i64 x]) ∧ Below W.heap.size W w' from HP.out)
      replace HQ := Lib.hid (show ∀ W, Below w.heap.size w W → Calls Tryz.prog 12 #[.slice A n c] W fun e w' => e = .returned (.tuple #[.agg #[.int .i64 off, .int .i64 kd, .int .i64 sv, .string sn, .string sf, .bool is, .int .i64 y, .int .i64 m, .int .i64 d1, .int .i64 d2, .int .i64 d3, .int .i64 h1, .int .i64 h2], .int .i64 x]) ∧ Below W.heap.size W w' from HQ.out)
      go_wp2_with fail
      refine (HP.out _ hb0).mono ?_
      rintro e w1 ⟨rfl, hb1⟩
      have HC1 := Lib.hid (show Blk (w1.alloc (.cells #[.int .i64 off, .int .i64 kd, .int .i64 sv, .string sn, .string sf, .bool is, .int .i64 y, .int .i64 m, .int .i64 d1, .int .i64 d2, .int .i64 d3, .int .i64 h1, .int .i64 h2] 31)) w1.heap.size 31 #[.int .i64 off, .int .i64 kd, .int .i64 sv, .string sn, .string sf, .bool is, .int .i64 y, .int .i64 m, .int .i64 d1, .int .i64 d2, .int .i64 d3, .int .i64 h1, .int .i64 h2] ∧ Below w.heap.size w (w1.alloc (.cells #[.int .i64 off, .int .i64 kd, .int .i64 sv, .string sn, .string sf, .bool is, .int .i64 y, .int .i64 m, .int .i64 d1, .int .i64 d2, .int .i64 d3, .int .i64 h1, .int .i64 h2] 31)) from ⟨Blk.new' _ _ _ rfl, rbelow_alloc hb1 _⟩)
      clear hb1 hb0 HP
      go_wp2_with fail
      refine (HQ.out _ HC1.out.2).mono ?_
      rintro e w2 ⟨rfl, hb2⟩
      have HC2 := Lib.hid (show Blk (w2.alloc (.cells #[.int .i64 off, .int .i64 kd, .int .i64 sv, .string sn, .string sf, .bool is, .int .i64 y, .int .i64 m, .int .i64 d1, .int .i64 d2, .int .i64 d3, .int .i64 h1, .int .i64 h2] 31)) w1.heap.size 31 #[.int .i64 off, .int .i64 kd, .int .i64 sv, .string sn, .string sf, .bool is, .int .i64 y, .int .i64 m, .int .i64 d1, .int .i64 d2, .int .i64 d3, .int .i64 h1, .int .i64 h2] ∧ Blk (w2.alloc (.cells #[.int .i64 off, .int .i64 kd, .int .i64 sv, .string sn, .string sf, .bool is, .int .i64 y, .int .i64 m, .int .i64 d1, .int .i64 d2, .int .i64 d3, .int .i64 h1, .int .i64 h2] 31)) w2.heap.size 31 #[.int .i64 off, .int .i64 kd, .int .i64 sv, .string sn, .string sf, .bool is, .int .i64 y, .int .i64 m, .int .i64 d1, .int .i64 d2, .int .i64 d3, .int .i64 h1, .int .i64 h2] ∧ Below w.heap.size w (w2.alloc (.cells #[.int .i64 off, .int .i64 kd, .int .i64 sv, .string sn, .string sf, .bool is, .int .i64 y, .int .i64 m, .int .i64 d1, .int .i64 d2, .int .i64 d3, .int .i64 h1, .int .i64 h2] 31)) from ⟨(HC1.out.1.below hb2 HC1.out.1.lt).alloc _, Blk.new' _ _ _ rfl, rbelow_alloc (HC1.out.2.trans (hb2.mono HC1.out.2.size)) _⟩)
      clear hb2 HC1 HQ
      go_upto_region 11 with fail
      generalize w2.alloc (.cells #[.int .i64 off, .int .i64 kd, .int .i64 sv, .string sn, .string sf, .bool is, .int .i64 y, .int .i64 m, .int .i64 d1, .int .i64 d2, .int .i64 d3, .int .i64 h1, .int .i64 h2] 31) = w3 at *
      generalize w1.heap.size = g1 at *
      generalize w2.heap.size = g2 at *
      have u0 : w3.cell? ⟨g1, 0, none⟩ = some (.int .i64 off) := HC2.out.1.cell_ rfl
      have u1 : w3.cell? ⟨g1, 1, none⟩ = some (.int .i64 kd) := HC2.out.1.cell_ rfl
      have u2 : w3.cell? ⟨g1, 2, none⟩ = some (.int .i64 sv) := HC2.out.1.cell_ rfl
      have u3 : w3.cell? ⟨g1, 3, none⟩ = some (.string sn) := HC2.out.1.cell_ rfl
      have u4 : w3.cell? ⟨g1, 4, none⟩ = some (.string sf) := HC2.out.1.cell_ rfl
      have u5 : w3.cell? ⟨g1, 5, none⟩ = some (.bool is) := HC2.out.1.cell_ rfl
      have u6 : w3.cell? ⟨g1, 6, none⟩ = some (.int .i64 y) := HC2.out.1.cell_ rfl
      have u7 : w3.cell? ⟨g1, 7, none⟩ = some (.int .i64 m) := HC2.out.1.cell_ rfl
      have u8 : w3.cell? ⟨g1, 8, none⟩ = some (.int .i64 d1) := HC2.out.1.cell_ rfl
      have u9 : w3.cell? ⟨g1, 9, none⟩ = some (.int .i64 d2) := HC2.out.1.cell_ rfl
      have u10 : w3.cell? ⟨g1, 10, none⟩ = some (.int .i64 d3) := HC2.out.1.cell_ rfl
      have u11 : w3.cell? ⟨g1, 11, none⟩ = some (.int .i64 h1) := HC2.out.1.cell_ rfl
      have u12 : w3.cell? ⟨g1, 12, none⟩ = some (.int .i64 h2) := HC2.out.1.cell_ rfl
      have v0 : w3.cell? ⟨g2, 0, none⟩ = some (.int .i64 off) := HC2.out.2.1.cell_ rfl
      have v1 : w3.cell? ⟨g2, 1, none⟩ = some (.int .i64 kd) := HC2.out.2.1.cell_ rfl
      have v2 : w3.cell? ⟨g2, 2, none⟩ = some (.int .i64 sv) := HC2.out.2.1.cell_ rfl
      have v3 : w3.cell? ⟨g2, 3, none⟩ = some (.string sn) := HC2.out.2.1.cell_ rfl
      have v4 : w3.cell? ⟨g2, 4, none⟩ = some (.string sf) := HC2.out.2.1.cell_ rfl
      have v5 : w3.cell? ⟨g2, 5, none⟩ = some (.bool is) := HC2.out.2.1.cell_ rfl
      have v6 : w3.cell? ⟨g2, 6, none⟩ = some (.int .i64 y) := HC2.out.2.1.cell_ rfl
      have v7 : w3.cell? ⟨g2, 7, none⟩ = some (.int .i64 m) := HC2.out.2.1.cell_ rfl
      have v8 : w3.cell? ⟨g2, 8, none⟩ = some (.int .i64 d1) := HC2.out.2.1.cell_ rfl
      have v9 : w3.cell? ⟨g2, 9, none⟩ = some (.int .i64 d2) := HC2.out.2.1.cell_ rfl
      have v10 : w3.cell? ⟨g2, 10, none⟩ = some (.int .i64 d3) := HC2.out.2.1.cell_ rfl
      have v11 : w3.cell? ⟨g2, 11, none⟩ = some (.int .i64 h1) := HC2.out.2.1.cell_ rfl
      have v12 : w3.cell? ⟨g2, 12, none⟩ = some (.int .i64 h2) := HC2.out.2.1.cell_ rfl
      go_wp2_with fail
      refine (HW.out _ HC2.out.2.2).mono ?_
      rintro e w4 ⟨rfl, hb4⟩
      have HZ := Lib.hid (HC2.out.2.2.trans (hb4.mono HC2.out.2.2.size))
      clear hb4 HC2
      go_wp2_with fail
      go_ret
      exact ⟨rfl, HZ.out⟩
end Go.Proofs.YtbdmieelokmhiaaGreatDoor
