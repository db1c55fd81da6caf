/-
  The law RulelineParses: what the call returns.
-/
import Derived.Test.YtgfnnmdngckmmaaGreatDoorRef10q
import Derived.Test.YtgfnnmdngckmmaaGreatDoorRuleReads
set_option linter.unusedVariables false
namespace Go.Proofs.YtgfnnmdngckmmaaGreatDoor
open Go.RowKit

theorem r10parse_arg (A : Option Addr) (c : Nat) (ls : List (List UInt8)) (w : World) (hr : StrArg w A ls) (hl : ∀ l ∈ ls, l.length ≤ 1048576) :
    Calls Tryz.prog 12 #[.slice A ls.length c] w fun e w' => e = .returned (.tuple #[ruleV (ruleR ls).1, .int .i64 (ruleR ls).2]) ∧ Below w.heap.size w w' := by
  by_cases h0 : ls = []
  · subst h0
    exact r10parse_bad A 0 c w (.inl (by decide))
  · obtain ⟨b, o, rfl, hr2⟩ := hr.row h0
    exact r10parse_any b o _ c ls w hr2 rfl hl
theorem StrArg.reads {w : World} {A : Option Addr} {ls : List (List UInt8)} (h : StrArg w A ls) : Reads w w.heap.size 1 A ls.length (strV ls) := by
  refine ⟨by simp [strV], fun hn => ?_⟩
  obtain ⟨b, o, rfl, hr⟩ := h.row (by intro h; subst h; simp at hn)
  refine ⟨_, rfl, hr.lt, fun j u hu => ?_⟩
  rw [strV, List.getElem?_map] at hu
  cases hj : ls[j]? with
  | none => rw [hj] at hu; cases hu
  | some l =>
    rw [hj] at hu
    cases hu
    have := hr.at_ j l hj
    have e : (⟨b, o, none⟩ : Addr).add j = ⟨b, o + j, none⟩ := by unfold Addr.add; split <;> simp_all
    rw [e]; exact this
theorem strV_one (ls : List (List UInt8)) : ∀ u ∈ strV ls, u.oneCell' = true := by
  intro u hu
  obtain ⟨l, _, rfl⟩ := List.mem_map.1 hu
  rfl
/-- the copy of the fields -/
structure Copy (W : World) (v : Value) (ls : List (List UInt8)) (n : Nat) : Prop where
  row : n ≠ 0 → ∃ g cap, v = .slice (some ⟨g, 0, none⟩) n cap ∧ n ≤ cap ∧ StrRow W g 0 ls
theorem Copy.below {W W' : World} {v : Value} {ls : List (List UInt8)} {n : Nat} (h : Copy W v ls n) (hb : Below W.heap.size W W') : Copy W' v ls n :=
  ⟨fun h0 => by obtain ⟨g, cap, e, hc, hr⟩ := h.row h0; exact ⟨g, cap, e, hc, hr.below hb⟩⟩
theorem Copy.of_own {W : World} {base n : Nat} {v : Value} {ls : List (List UInt8)} (h : W.ownsRow base 9 1 v n (strV ls)) : Copy W v ls n :=
  ⟨fun h0 => by
    rcases h.2 with ⟨rfl, h1⟩ | ⟨g, cap, cur, rfl, hg, hh, hnc, _⟩
    · exact absurd h1 h0
    · exact ⟨g, cap, rfl, hnc, StrRow.own h (Array.getElem?_eq_some_iff.1 hh).1⟩⟩

set_option maxRecDepth 100000 in
set_option maxHeartbeats 2000000 in
theorem rparses_any (A : Option Addr) (c : Nat) (ls : List (List UInt8)) (w : World) (hT : RTabs w) (hr : StrArg w A ls) :
    Calls Tryz.prog 3 #[.slice A ls.length c] w fun e w' => e = .returned (.bool true) ∧ Below w.heap.size w w' := by
  have HT := Lib.hid (fun W (hW : Below w.heap.size w W) => hT.below hW)
  have HA := Lib.hid (fun W (hW : Below w.heap.size w W) => hr.below hW)
  have HW := Lib.hid (show ∀ W, Below w.heap.size w W → Calls Tryz.prog 10 #[] W fun e w' => e = .returned (.bool true) ∧ Below W.heap.size W w' from fun W hW => rworks_any W (hT.below hW))
  have hb0 : Below w.heap.size w w := Below.refl _ _
  have HR := Lib.hid hr
  obtain ⟨n, hn⟩ : ∃ n, ls.length = n := ⟨_, rfl⟩
  rw [hn]
  clear hT hr
  by_cases h12 : 12 < n
  · go_enter Tryz.func3, Tryz.ntmps3
    go_wp2_with fail
    refine (HW.out _ hb0).mono ?_
    rintro e w1 ⟨rfl, hb1⟩
    go_wp2_with fail
    go_ret
    exact ⟨rfl, hb1⟩
  have HP := Lib.hid (show (∀ l ∈ ls, l.length ≤ 100) → ∀ W, Below w.heap.size w W → Calls Tryz.prog 11 #[.slice A n c] W fun e w' => e = .returned (.tuple #[ruleV (ruleR ls).1, .int .i64 (ruleR ls).2]) ∧ Below W.heap.size W w' from fun hl W hW => hn ▸ ruleParse_arg A c ls W (HT.out W hW) (HA.out W hW) fun l h => by have := hl l h; omega)
  have HQ := Lib.hid (show (∀ l ∈ ls, l.length ≤ 100) → ∀ W, Below w.heap.size w W → Calls Tryz.prog 12 #[.slice A n c] W fun e w' => e = .returned (.tuple #[ruleV (ruleR ls).1, .int .i64 (ruleR ls).2]) ∧ Below W.heap.size W w' from fun hl W hW => hn ▸ r10parse_arg A c ls W (HA.out W hW) fun l h => by have := hl l h; omega)
  obtain ⟨i0, hi, hz0, hz1, hz2⟩ := info_parts infoStr
  go_enter Tryz.func3, Tryz.ntmps3
  go_wp2_with fail
  go_loop [3] (fun i => ∃ k : Nat, k ≤ n ∧ i = .int .i64 (k : Int) ∧ Aside (∀ j l, j < k → ls[j]? = some l → l.length ≤ 100)) (fun i => n - (intOf i).toNat)
  case atStart => exact ⟨0, Nat.zero_le _, rfl, fun j l hj => absurd hj (by omega)⟩
  case round =>
    obtain ⟨k, hk, rfl, hall⟩ := hrel
    by_cases hlt : k < n
    · obtain ⟨l, hl⟩ : ∃ l, ls[k]? = some l := ⟨_, List.getElem?_eq_getElem (by omega)⟩
      obtain ⟨b, o, rfl, hrow⟩ := HR.out.row (by intro h; subst h; simp at hn; omega)
      have hcell := hrow.at_ k l hl
      obtain ⟨sl, rfl⟩ : ∃ sl : ByteArray, l = sl.data.toList := ⟨⟨l.toArray⟩, by simp⟩
      replace hcell : w.cell? ⟨b, o + k, none⟩ = some (.string sl) := hcell
      have HN := Lib.hid hall.out
      have HL := Lib.hid hl
      clear hall hl hrow
      by_cases h100 : 100 < sl.size
      · go_wp2_with fail
        refine (HW.out _ hb0).mono ?_
        rintro e w1 ⟨rfl, hb1⟩
        go_wp2_with fail
        go_ret
        exact ⟨rfl, hb1⟩
      · go_wp2_with fail
        go_round
        case rel =>
          refine ⟨k + 1, by omega, by go_num, fun j l hj hl => ?_⟩
          rcases Nat.lt_or_ge j k with h | h
          · exact HN.out j l h hl
          · obtain rfl : j = k := by omega
            rw [HL.out] at hl
            cases hl
            show sl.size ≤ 100
            omega
        case measure => simp [intOf]; omega
    · obtain rfl : n = k := by omega
      have HL := Lib.hid (show ∀ l ∈ ls, l.length ≤ 100 from fun l hl => by
        obtain ⟨j, hj⟩ := List.getElem?_of_mem hl
        refine hall.out j l ?_ hj
        rcases Nat.lt_or_ge j ls.length with h | h
        · omega
        · rw [List.getElem?_eq_none h] at hj; cases hj)
      have HP2 := Lib.hid (HP.out HL.out)
      have HQ2 := Lib.hid (HQ.out HL.out)
      have HN := Lib.hid hn
      have hrd := HR.out.reads
      rw [hn] at hrd
      have HRd := Lib.hid hrd
      clear hall HP HQ hk hlt hn hrd
      generalize ruleR ls = RR at *
      obtain ⟨⟨nm, fr, tl, mo, ⟨dk, dw, dd⟩, ⟨hs, hb⟩, sv, lt⟩, x⟩ := RR
      obtain ⟨sn, rfl⟩ : ∃ sn : ByteArray, nm = sn.data.toList := ⟨⟨nm.toArray⟩, by simp⟩
      obtain ⟨sl, rfl⟩ : ∃ sl : ByteArray, lt = sl.data.toList := ⟨⟨lt.toArray⟩, by simp⟩
      replace HP2 := Lib.hid (show ∀ W, Below w.heap.size w W → Calls Tryz.prog 11 #[.slice A n c] W fun e w' => e = .returned (.tuple #[.agg #[.string sn, .int .i64 fr, .int .i64 tl, .int .i64 mo, .int .i64 dk, .int .i64 dw, .int .i64 dd, .int .i64 hs, .int .i64 hb, .int .i64 sv, .string sl], .int .i64 x]) ∧ Below W.heap.size W w' from HP2.out)
      replace HQ2 := Lib.hid (show ∀ W, Below w.heap.size w W → Calls Tryz.prog 12 #[.slice A n c] W fun e w' => e = .returned (.tuple #[.agg #[.string sn, .int .i64 fr, .int .i64 tl, .int .i64 mo, .int .i64 dk, .int .i64 dw, .int .i64 dd, .int .i64 hs, .int .i64 hb, .int .i64 sv, .string sl], .int .i64 x]) ∧ Below W.heap.size W w' from HQ2.out)
      go_wp2_with (at_builtin; refine wpList_append_any _ rfl (.tmp 27) (.tmp 28) 22 rfl w.heap.size 9 i0 (.string ⟨#[]⟩) 1 16 Tryz.underlying22 hi hz0 hz1 hz2 rfl (by decide) _ 0 [] rfl (World.ownsRow_made w #[] 0 (Nat.le_refl _) (by decide) rfl) w.heap.size A n c (strV ls) rfl (HRd.out.alloc (Nat.le_refl _) _) (strV_one ls) (by unfold maxLen; omega) (by omega) (by simp) ?_; intro v1 w1 hown1 hg1 _)
      have hb1 : Below w.heap.size w w1 := ((Below.refl _ w).alloc (Nat.le_refl _) _).grown hg1 (by simp) (own_base (World.ownsRow_made (base := w.heap.size) (e := 9) (size := 1) w #[] 0 (Nat.le_refl _) (by decide) rfl))
      have HC1 := Lib.hid (show Copy w1 v1 ls n ∧ Below w.heap.size w w1 from ⟨Copy.of_own (by simpa using hown1), hb1⟩)
      clear hown1 hg1 hb1 HRd hi hz0 hz1 hz2 hb0
      go_wp2_with fail
      refine (HP2.out _ HC1.out.2).mono ?_
      rintro e w2 ⟨rfl, hb2⟩
      have HC2 := Lib.hid (show Blk (w2.alloc (.cells #[.string sn, .int .i64 fr, .int .i64 tl, .int .i64 mo, .int .i64 dk, .int .i64 dw, .int .i64 dd, .int .i64 hs, .int .i64 hb, .int .i64 sv, .string sl] 29)) w2.heap.size 29 #[.string sn, .int .i64 fr, .int .i64 tl, .int .i64 mo, .int .i64 dk, .int .i64 dw, .int .i64 dd, .int .i64 hs, .int .i64 hb, .int .i64 sv, .string sl] ∧ Copy (w2.alloc (.cells #[.string sn, .int .i64 fr, .int .i64 tl, .int .i64 mo, .int .i64 dk, .int .i64 dw, .int .i64 dd, .int .i64 hs, .int .i64 hb, .int .i64 sv, .string sl] 29)) v1 ls n ∧ Below w.heap.size w (w2.alloc (.cells #[.string sn, .int .i64 fr, .int .i64 tl, .int .i64 mo, .int .i64 dk, .int .i64 dw, .int .i64 dd, .int .i64 hs, .int .i64 hb, .int .i64 sv, .string sl] 29)) from
        ⟨Blk.new' _ _ _ rfl, (HC1.out.1.below hb2).below ((Below.refl _ _).alloc (Nat.le_refl _) _), rbelow_alloc (HC1.out.2.trans (hb2.mono HC1.out.2.size)) _⟩)
      clear hb2 HC1 HP2
      go_wp2_with fail
      refine (HQ2.out _ HC2.out.2.2).mono ?_
      rintro e w3 ⟨rfl, hb3⟩
      have HC3 := Lib.hid (show Blk (w3.alloc (.cells #[.string sn, .int .i64 fr, .int .i64 tl, .int .i64 mo, .int .i64 dk, .int .i64 dw, .int .i64 dd, .int .i64 hs, .int .i64 hb, .int .i64 sv, .string sl] 29)) w2.heap.size 29 #[.string sn, .int .i64 fr, .int .i64 tl, .int .i64 mo, .int .i64 dk, .int .i64 dw, .int .i64 dd, .int .i64 hs, .int .i64 hb, .int .i64 sv, .string sl] ∧ Blk (w3.alloc (.cells #[.string sn, .int .i64 fr, .int .i64 tl, .int .i64 mo, .int .i64 dk, .int .i64 dw, .int .i64 dd, .int .i64 hs, .int .i64 hb, .int .i64 sv, .string sl] 29)) w3.heap.size 29 #[.string sn, .int .i64 fr, .int .i64 tl, .int .i64 mo, .int .i64 dk, .int .i64 dw, .int .i64 dd, .int .i64 hs, .int .i64 hb, .int .i64 sv, .string sl] ∧ Copy (w3.alloc (.cells #[.string sn, .int .i64 fr, .int .i64 tl, .int .i64 mo, .int .i64 dk, .int .i64 dw, .int .i64 dd, .int .i64 hs, .int .i64 hb, .int .i64 sv, .string sl] 29)) v1 ls n ∧ Below w.heap.size w (w3.alloc (.cells #[.string sn, .int .i64 fr, .int .i64 tl, .int .i64 mo, .int .i64 dk, .int .i64 dw, .int .i64 dd, .int .i64 hs, .int .i64 hb, .int .i64 sv, .string sl] 29)) from
        ⟨(HC2.out.1.below hb3 HC2.out.1.lt).alloc _, Blk.new' _ _ _ rfl, (HC2.out.2.1.below hb3).below ((Below.refl _ _).alloc (Nat.le_refl _) _), rbelow_alloc (HC2.out.2.2.trans (hb3.mono HC2.out.2.2.size)) _⟩)
      clear hb3 HC2 HQ2
      generalize w2.heap.size = g5 at *
      go_upto_region 11 with fail
      generalize w3.alloc (.cells #[.string sn, .int .i64 fr, .int .i64 tl, .int .i64 mo, .int .i64 dk, .int .i64 dw, .int .i64 dd, .int .i64 hs, .int .i64 hb, .int .i64 sv, .string sl] 29) = W4 at *
      generalize w3.heap.size = g7 at *
      go_wp2_with fail
      go_loopw [9] (fun i wr => ∃ k : Nat, k ≤ n ∧ i = .int .i64 (k : Int) ∧ Hid (Blk wr g5 29 #[.string sn, .int .i64 fr, .int .i64 tl, .int .i64 mo, .int .i64 dk, .int .i64 dw, .int .i64 dd, .int .i64 hs, .int .i64 hb, .int .i64 sv, .string sl] ∧ Blk wr g7 29 #[.string sn, .int .i64 fr, .int .i64 tl, .int .i64 mo, .int .i64 dk, .int .i64 dw, .int .i64 dd, .int .i64 hs, .int .i64 hb, .int .i64 sv, .string sl] ∧ Copy wr v1 ls n ∧ Below w.heap.size w wr)) (fun i _ => n - (intOf i).toNat)
      case atStart => exact ⟨0, Nat.zero_le _, rfl, HC3⟩
      case round =>
        obtain ⟨k, hk, rfl, HI⟩ := hrel
        clear HC3
        by_cases hlt : k < n
        · obtain ⟨l, hl⟩ : ∃ l, ls[k]? = some l := ⟨_, List.getElem?_eq_getElem (by rw [HN.out]; exact hlt)⟩
          obtain ⟨b, o, rfl, hrow⟩ := (HA.out _ HI.out.2.2.2).row (by intro h; subst h; have := HN.out; simp at this; omega)
          obtain ⟨g, cap, rfl, hcap, hrow2⟩ := HI.out.2.2.1.row (by omega)
          have hc1 := hrow.at_ k l hl
          have hc2 := hrow2.at_ k l hl
          rw [Nat.zero_add] at hc2
          have hcap2 : (n : Int) ≤ (cap : Int) := by omega
          have hki : (k : Int) < (n : Int) := by omega
          have hd : decide (k < n) = true := by simp [hlt]
          obtain ⟨sl2, hsl⟩ : ∃ sl : ByteArray, (⟨l.toArray⟩ : ByteArray) = sl := ⟨_, rfl⟩
          rw [hsl] at hc1 hc2
          clear hl hrow hrow2 hsl
          go_wp2_with fail
          go_quiet (fail)
          go_wp2_with fail
          go_roundw
          case rel => exact ⟨k + 1, by omega, by go_num, Lib.hid ⟨HI.out.1, HI.out.2.1, HI.out.2.2.1.below (below_drawn (Below.refl _ _) _), below_drawn HI.out.2.2.2 _⟩⟩
          case measure => simp [intOf]; omega
        · obtain rfl : n = k := by omega
          have hd : decide (n < n) = false := by simp
          have u0 : wr.cell? ⟨g5, 0, none⟩ = some (.string sn) := HI.out.1.cell_ rfl
          have y0 : wr.cell? ⟨g7, 0, none⟩ = some (.string sn) := HI.out.2.1.cell_ rfl
          have u1 : wr.cell? ⟨g5, 1, none⟩ = some (.int .i64 fr) := HI.out.1.cell_ rfl
          have y1 : wr.cell? ⟨g7, 1, none⟩ = some (.int .i64 fr) := HI.out.2.1.cell_ rfl
          have u2 : wr.cell? ⟨g5, 2, none⟩ = some (.int .i64 tl) := HI.out.1.cell_ rfl
          have y2 : wr.cell? ⟨g7, 2, none⟩ = some (.int .i64 tl) := HI.out.2.1.cell_ rfl
          have u3 : wr.cell? ⟨g5, 3, none⟩ = some (.int .i64 mo) := HI.out.1.cell_ rfl
          have y3 : wr.cell? ⟨g7, 3, none⟩ = some (.int .i64 mo) := HI.out.2.1.cell_ rfl
          have u4 : wr.cell? ⟨g5, 4, none⟩ = some (.int .i64 dk) := HI.out.1.cell_ rfl
          have y4 : wr.cell? ⟨g7, 4, none⟩ = some (.int .i64 dk) := HI.out.2.1.cell_ rfl
          have u5 : wr.cell? ⟨g5, 5, none⟩ = some (.int .i64 dw) := HI.out.1.cell_ rfl
          have y5 : wr.cell? ⟨g7, 5, none⟩ = some (.int .i64 dw) := HI.out.2.1.cell_ rfl
          have u6 : wr.cell? ⟨g5, 6, none⟩ = some (.int .i64 dd) := HI.out.1.cell_ rfl
          have y6 : wr.cell? ⟨g7, 6, none⟩ = some (.int .i64 dd) := HI.out.2.1.cell_ rfl
          have u7 : wr.cell? ⟨g5, 7, none⟩ = some (.int .i64 hs) := HI.out.1.cell_ rfl
          have y7 : wr.cell? ⟨g7, 7, none⟩ = some (.int .i64 hs) := HI.out.2.1.cell_ rfl
          have u8 : wr.cell? ⟨g5, 8, none⟩ = some (.int .i64 hb) := HI.out.1.cell_ rfl
          have y8 : wr.cell? ⟨g7, 8, none⟩ = some (.int .i64 hb) := HI.out.2.1.cell_ rfl
          have u9 : wr.cell? ⟨g5, 9, none⟩ = some (.int .i64 sv) := HI.out.1.cell_ rfl
          have y9 : wr.cell? ⟨g7, 9, none⟩ = some (.int .i64 sv) := HI.out.2.1.cell_ rfl
          have u10 : wr.cell? ⟨g5, 10, none⟩ = some (.string sl) := HI.out.1.cell_ rfl
          have y10 : wr.cell? ⟨g7, 10, none⟩ = some (.string sl) := HI.out.2.1.cell_ rfl
          go_wp2_with fail
          refine (HW.out _ HI.out.2.2.2).mono ?_
          rintro e w6 ⟨rfl, hb6⟩
          have HZ := Lib.hid (HI.out.2.2.2.trans (hb6.mono HI.out.2.2.2.size))
          clear hb6 HI
          go_wp2_with fail
          go_ret
          exact ⟨rfl, HZ.out⟩
end Go.Proofs.YtgfnnmdngckmmaaGreatDoor
