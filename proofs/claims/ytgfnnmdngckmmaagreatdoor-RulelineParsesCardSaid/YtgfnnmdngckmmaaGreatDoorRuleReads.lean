/-
  The law RulelineReads: what the call returns.
-/
import Derived.Test.YtgfnnmdngckmmaaGreatDoorRuleWorks
set_option linter.unusedVariables false
namespace Go.Proofs.YtgfnnmdngckmmaaGreatDoor
open Go.RowKit

/-- a slice of strings that came in -/
structure StrArg (w : World) (A : Option Addr) (ls : List (List UInt8)) : Prop where
  row : ls ≠ [] → ∃ b o, A = some ⟨b, o, none⟩ ∧ StrRow w b o ls
theorem StrArg.below {w w' : World} {A : Option Addr} {ls : List (List UInt8)} (h : StrArg w A ls) (hb : Below w.heap.size w w') : StrArg w' A ls :=
  ⟨fun h0 => by obtain ⟨b, o, hA, hr⟩ := h.row h0; exact ⟨b, o, hA, hr.below hb⟩⟩
theorem ruleParse_arg (A : Option Addr) (c : Nat) (ls : List (List UInt8)) (w : World) (hT : RTabs w) (hr : StrArg w A ls) (hl : ∀ l ∈ ls, l.length ≤ 1048576) :
    Calls Tryz.prog 11 #[.slice A ls.length c] w fun e w' => e = .returned (.tuple #[ruleV (ruleR ls).1, .int .i64 (ruleR ls).2]) ∧ Below w.heap.size w w' := by
  by_cases h0 : ls = []
  · subst h0
    exact ruleParse_n A 0 c w (by decide)
  · obtain ⟨b, o, rfl, hr2⟩ := hr.row h0
    exact ruleParse_any b o _ c ls w hT hr2 rfl hl

set_option maxRecDepth 100000 in
set_option maxHeartbeats 2000000 in
theorem rreads_any (A : Option Addr) (c : Nat) (ls : List (List UInt8)) (w : World) (hT : RTabs w) (hr : StrArg w A ls) :
    Calls Tryz.prog 6 #[.slice A ls.length c] w fun e w' => e = .returned (.bool true) ∧ Below w.heap.size w w' := by
  have HT := Lib.hid (fun W (hW : Below w.heap.size w W) => hT.below hW)
  have HA := Lib.hid (fun W (hW : Below w.heap.size w W) => hr.below hW)
  have HW := Lib.hid (show ∀ W, Below w.heap.size w W → Calls Tryz.prog 10 #[] W fun e w' => e = .returned (.bool true) ∧ Below W.heap.size W w' from fun W hW => rworks_any W (hT.below hW))
  have hb0 : Below w.heap.size w w := Below.refl _ _
  have HR := Lib.hid hr
  obtain ⟨n, hn⟩ : ∃ n, ls.length = n := ⟨_, rfl⟩
  rw [hn]
  clear hT hr
  by_cases h12 : 12 < n
  · go_enter Tryz.func6, Tryz.ntmps6
    go_wp2_with fail
    refine (HW.out _ hb0).mono ?_
    rintro e w1 ⟨rfl, hb1⟩
    go_wp2_with fail
    go_ret
    exact ⟨rfl, hb1⟩
  have HP := Lib.hid (show (∀ l ∈ ls, l.length ≤ 100) → ∀ W, Below w.heap.size w W → Calls Tryz.prog 11 #[.slice A n c] W fun e w' => e = .returned (.tuple #[ruleV (ruleR ls).1, .int .i64 (ruleR ls).2]) ∧ Below W.heap.size W w' from fun hl W hW => hn ▸ ruleParse_arg A c ls W (HT.out W hW) (HA.out W hW) fun l h => by have := hl l h; omega)
  go_enter Tryz.func6, Tryz.ntmps6
  go_wp2_with fail
  go_loop [3] (fun i => ∃ k : Nat, k ≤ n ∧ i = .int .i64 (k : Int) ∧ Aside (∀ j l, j < k → ls[j]? = some l → l.length ≤ 100)) (fun i => n - (intOf i).toNat)
  case atStart => exact ⟨0, Nat.zero_le _, rfl, fun j l hj => absurd hj (by omega)⟩
  case round =>
    obtain ⟨k, hk, rfl, hall⟩ := hrel
    by_cases hlt : k < n
    · obtain ⟨l, hl⟩ : ∃ l, ls[k]? = some l := ⟨_, List.getElem?_eq_getElem (by omega)⟩
      obtain ⟨b, o, rfl, hrow⟩ := HR.out.row (by intro h; subst h; simp at hn; omega)
      have hcell := hrow.at_ k l hl
      obtain ⟨sl, rfl⟩ : ∃ sl : ByteArray, l = sl.data.toList := ⟨⟨l.toArray⟩, by simp⟩
      replace hcell : w.cell? ⟨b, o + k, none⟩ = some (.string sl) := hcell
      have HN := Lib.hid hall.out
      have HL := Lib.hid hl
      clear hall hl hrow
      by_cases h100 : 100 < sl.size
      · go_wp2_with fail
        refine (HW.out _ hb0).mono ?_
        rintro e w1 ⟨rfl, hb1⟩
        go_wp2_with fail
        go_ret
        exact ⟨rfl, hb1⟩
      · go_wp2_with fail
        go_round
        case rel =>
          refine ⟨k + 1, by omega, by go_num, fun j l hj hl => ?_⟩
          rcases Nat.lt_or_ge j k with h | h
          · exact HN.out j l h hl
          · obtain rfl : j = k := by omega
            rw [HL.out] at hl
            cases hl
            show sl.size ≤ 100
            omega
        case measure => simp [intOf]; omega
    · obtain rfl : n = k := by omega
      have HL := Lib.hid (show ∀ l ∈ ls, l.length ≤ 100 from fun l hl => by
        obtain ⟨j, hj⟩ := List.getElem?_of_mem hl
        refine hall.out j l ?_ hj
        rcases Nat.lt_or_ge j ls.length with h | h
        · omega
        · rw [List.getElem?_eq_none h] at hj; cases hj)
      have HP2 := Lib.hid (HP.out HL.out)
      clear hall HP HR
      by_cases he : (ruleR ls).2 = 0
      · obtain ⟨hRR, h9⟩ := rule_right he
        have hRe : ruleR ls = ((ruleR ls).1, 0) := by rw [← he]
        generalize (ruleR ls).1 = r at *
        rw [hRe] at HP2
        obtain ⟨nm, fr, tl, mo, ⟨dk, dw, dd⟩, ⟨hs, hb⟩, sv, lt⟩ := r
        obtain ⟨sn, rfl⟩ : ∃ sn : ByteArray, nm = sn.data.toList := ⟨⟨nm.toArray⟩, by simp⟩
        obtain ⟨sl, rfl⟩ : ∃ sl : ByteArray, lt = sl.data.toList := ⟨⟨lt.toArray⟩, by simp⟩
        obtain rfl : n = 9 := by omega
        obtain ⟨T, hT⟩ : ∃ T : ByteArray, (⟨(ruleT ⟨sn.data.toList, fr, tl, mo, ⟨dk, dw, dd⟩, ⟨hs, hb⟩, sv, sl.data.toList⟩).toArray⟩ : ByteArray) = T := ⟨_, rfl⟩
        have hTs : T.size ≤ 310 := by rw [← hT]; exact ruleT_len hRR
        have hTw : wordsR T.data.toList = ruleB :: ruleFs ⟨sn.data.toList, fr, tl, mo, ⟨dk, dw, dd⟩, ⟨hs, hb⟩, sv, sl.data.toList⟩ := by rw [← hT]; exact words_rule hRR
        have HPr := Lib.hid (show ∀ W, Below w.heap.size w W → Calls Tryz.prog 13 #[.agg #[.string sn, .int .i64 fr, .int .i64 tl, .int .i64 mo, .int .i64 dk, .int .i64 dw, .int .i64 dd, .int .i64 hs, .int .i64 hb, .int .i64 sv, .string sl]] W fun e w' => e = .returned (.tuple #[.string T, .int .i64 0]) ∧ Below W.heap.size W w' from fun W hW => by
          have h := rulePrint_any ⟨sn.data.toList, fr, tl, mo, ⟨dk, dw, dd⟩, ⟨hs, hb⟩, sv, sl.data.toList⟩ W (HT.out W hW) (by have := set_len hRR.name; simp only at this; simp only; omega) (by rcases hRR.lett with h | h; rw [h]; decide; have := (ofB_len h).2; simp only at this; simp only; omega)
          rw [show rulePrintR _ = _ from if_pos ((ruleOk_iff _).2 hRR)] at h
          rw [← hT]
          exact h)
        have HWo := Lib.hid (show ∀ W, Below w.heap.size w W → Calls Tryz.prog 16 #[.string T] W fun e w' => (∃ g cap, e = .returned (.slice (some ⟨g, 0, none⟩) 10 cap) ∧ 10 ≤ cap ∧ Hid (∀ c2, Calls Tryz.prog 11 #[.slice (some ⟨g, 1, none⟩) 9 c2] w' fun e w2 => e = .returned (.tuple #[.agg #[.string sn, .int .i64 fr, .int .i64 tl, .int .i64 mo, .int .i64 dk, .int .i64 dw, .int .i64 dd, .int .i64 hs, .int .i64 hb, .int .i64 sv, .string sl], .int .i64 0]) ∧ Below w'.heap.size w' w2)) ∧ Below W.heap.size W w' from fun W hW => (words_row T W (by omega)).mono fun e w' ⟨⟨g, cap, he, hcap, hg, hr, ho⟩, hb⟩ => by
          rw [hTw] at he hcap hr
          refine ⟨⟨g, cap, he, hcap, Lib.hid fun c2 => ?_⟩, hb⟩
          have h := ruleParse_any g 1 9 c2 (ruleFs ⟨sn.data.toList, fr, tl, mo, ⟨dk, dw, dd⟩, ⟨hs, _⟩, sv, sl.data.toList⟩) w' ((HT.out W hW).below hb) hr.tail rfl fun l hl => by have := fields_len hRR l (List.mem_cons_of_mem _ hl); omega
          rw [rule_back hRR] at h
          exact h)
        simp only [ruleV, RuleP.cells] at HP2
        have HP3 := Lib.hid (show ∀ W, Below w.heap.size w W → Calls Tryz.prog 11 #[.slice A 9 c] W fun e w' => e = .returned (.tuple #[.agg #[.string sn, .int .i64 fr, .int .i64 tl, .int .i64 mo, .int .i64 dk, .int .i64 dw, .int .i64 dd, .int .i64 hs, .int .i64 hb, .int .i64 sv, .string sl], .int .i64 0]) ∧ Below W.heap.size W w' from HP2.out)
        clear hRR hT hTw hTs he hRe HP2 HL HT HA
        go_wp2_with fail
        refine (HP3.out _ hb0).mono ?_
        rintro e w1 ⟨rfl, hb1⟩
        have HG1 := Lib.hid (And.intro (Blk.new' w1 29 #[.string sn, .int .i64 fr, .int .i64 tl, .int .i64 mo, .int .i64 dk, .int .i64 dw, .int .i64 dd, .int .i64 hs, .int .i64 hb, .int .i64 sv, .string sl] rfl) (hb1.alloc hb1.size (.cells #[.string sn, .int .i64 fr, .int .i64 tl, .int .i64 mo, .int .i64 dk, .int .i64 dw, .int .i64 dd, .int .i64 hs, .int .i64 hb, .int .i64 sv, .string sl] 29)))
        clear hb1 HP3 hb0
        go_wp2_with fail
        refine (HPr.out _ HG1.out.2).mono ?_
        rintro e w2 ⟨rfl, hb2⟩
        have HG2 := Lib.hid (And.intro (HG1.out.1.below hb2 HG1.out.1.lt) (HG1.out.2.trans (hb2.mono HG1.out.2.size)))
        clear HG1 hb2 HPr
        generalize w1.heap.size = g1 at *
        go_wp2_with fail
        refine (HWo.out _ HG2.out.2).mono ?_
        rintro e w3 ⟨⟨g, cap, rfl, hcap, HV⟩, hb3⟩
        have HG3 := Lib.hid (And.intro (HG2.out.1.below hb3 HG2.out.1.lt) (HG2.out.2.trans (hb3.mono HG2.out.2.size)))
        clear HG2 hb3 HV hcap
        go_wp2_with fail
        refine (HWo.out _ HG3.out.2).mono ?_
        rintro e w4 ⟨⟨g3, cap3, rfl, hcap, HV⟩, hb4⟩
        have HG4 := Lib.hid (And.intro (HG3.out.1.below hb4 HG3.out.1.lt) (HG3.out.2.trans (hb4.mono HG3.out.2.size)))
        clear HG3 hb4
        have hcap1 : ¬ cap3 = 1 := by omega
        have hcap2 : (10 : Int) ≤ (cap3 : Int) := by omega
        go_wp2_with fail
        refine (HV.out _).mono ?_
        rintro e w5 ⟨rfl, hb5⟩
        have HG5 := Lib.hid (And.intro (HG4.out.1.below hb5 HG4.out.1.lt) (HG4.out.2.trans (hb5.mono HG4.out.2.size)))
        clear HG4 hb5 HV hcap hcap1 hcap2
        have u0 : w5.cell? ⟨g1, 0, none⟩ = some (.string sn) := HG5.out.1.cell_ rfl
        have u1 : w5.cell? ⟨g1, 1, none⟩ = some (.int .i64 fr) := HG5.out.1.cell_ rfl
        have u2 : w5.cell? ⟨g1, 2, none⟩ = some (.int .i64 tl) := HG5.out.1.cell_ rfl
        have u3 : w5.cell? ⟨g1, 3, none⟩ = some (.int .i64 mo) := HG5.out.1.cell_ rfl
        have u4 : w5.cell? ⟨g1, 4, none⟩ = some (.int .i64 dk) := HG5.out.1.cell_ rfl
        have u5 : w5.cell? ⟨g1, 5, none⟩ = some (.int .i64 dw) := HG5.out.1.cell_ rfl
        have u6 : w5.cell? ⟨g1, 6, none⟩ = some (.int .i64 dd) := HG5.out.1.cell_ rfl
        have u7 : w5.cell? ⟨g1, 7, none⟩ = some (.int .i64 hs) := HG5.out.1.cell_ rfl
        have u8 : w5.cell? ⟨g1, 8, none⟩ = some (.int .i64 hb) := HG5.out.1.cell_ rfl
        have u9 : w5.cell? ⟨g1, 9, none⟩ = some (.int .i64 sv) := HG5.out.1.cell_ rfl
        have u10 : w5.cell? ⟨g1, 10, none⟩ = some (.string sl) := HG5.out.1.cell_ rfl
        have hl1 := HG5.out.1.lt
        go_wp2_with fail
        refine (HW.out _ (HG5.out.2.alloc HG5.out.2.size _)).mono ?_
        rintro e w6 ⟨rfl, hb6⟩
        have HG6 := Lib.hid ((HG5.out.2.alloc HG5.out.2.size _).trans (hb6.mono (HG5.out.2.alloc HG5.out.2.size _).size))
        clear HG5 hb6
        go_wp2_with fail
        go_ret
        exact ⟨rfl, HG6.out⟩
      · have hRn := rule_none he
        have HP3 := Lib.hid (show ∀ W, Below w.heap.size w W → Calls Tryz.prog 11 #[.slice A n c] W fun e w' => e = .returned (.tuple #[.agg #[.string ⟨#[]⟩, .int .i64 0, .int .i64 0, .int .i64 0, .int .i64 0, .int .i64 0, .int .i64 0, .int .i64 0, .int .i64 0, .int .i64 0, .string ⟨#[]⟩], .int .i64 (ruleR ls).2]) ∧ Below W.heap.size W w' from fun W hW => by have h := HP2.out W hW; rw [hRn] at h; exact h)
        have heb : ((ruleR ls).2 != 0) = true := by rw [bne_iff_ne]; exact he
        generalize (ruleR ls).2 = x at *
        clear hRn HP2 he HL HT HA
        go_wp2_with fail
        refine (HP3.out _ hb0).mono ?_
        rintro e w1 ⟨rfl, hb1⟩
        have HG1 := Lib.hid (hb1.alloc hb1.size (.cells #[.string ⟨#[]⟩, .int .i64 0, .int .i64 0, .int .i64 0, .int .i64 0, .int .i64 0, .int .i64 0, .int .i64 0, .int .i64 0, .int .i64 0, .string ⟨#[]⟩] 29))
        clear hb1 HP3 hb0
        go_wp2_with fail
        refine (HW.out _ HG1.out).mono ?_
        rintro e w2 ⟨rfl, hb2⟩
        have HG2 := Lib.hid (HG1.out.trans (hb2.mono HG1.out.size))
        clear hb2 HG1
        go_wp2_with fail
        go_ret
        exact ⟨rfl, HG2.out⟩
end Go.Proofs.YtgfnnmdngckmmaaGreatDoor
