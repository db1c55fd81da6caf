/-
  The document's layer 11: written, named, year, right.
  The document's layer 11: rules.
-/
import Derived.Test.YtmcgbjjcpcgcfaaGreatDoorRefTen
import Derived.Test.YtmcgbjjcpcgcfaaGreatDoorRefNine
import Derived.Test.YtmcgbjjcpcgcfaaGreatDoorEraHead
import Derived.Test.YtmcgbjjcpcgcfaaGreatDoorEraParse
set_option linter.unusedVariables false
namespace Go.Proofs.YtmcgbjjcpcgcfaaGreatDoor
open Go.RowKit

theorem fmt_not {c : UInt8} (h : fmtC c = false) : (c.toNat : Int) < 33 ∨ (¬ (c.toNat : Int) < 33 ∧ 126 < (c.toNat : Int)) ∨ (¬ (c.toNat : Int) < 33 ∧ ¬ 126 < (c.toNat : Int) ∧ ((c.toNat : Int) == 34) = true) ∨ (¬ (c.toNat : Int) < 33 ∧ ¬ 126 < (c.toNat : Int) ∧ ((c.toNat : Int) == 34) = false ∧ ((c.toNat : Int) == 35) = true) := by
  have := of_decide_eq_false h
  simp only [beq_iff_eq, beq_eq_false_iff_ne]
  omega
theorem fmt_ok {c : UInt8} (h : fmtC c = true) : ¬ (c.toNat : Int) < 33 ∧ ¬ 126 < (c.toNat : Int) ∧ ((c.toNat : Int) == 34) = false ∧ ((c.toNat : Int) == 35) = false := by
  have := of_decide_eq_true h
  simp only [beq_eq_false_iff_ne]
  omega
set_option maxRecDepth 100000 in
set_option maxHeartbeats 1000000 in
theorem r11written_any (s : ByteArray) (w : World) (hs : s.size ≤ 1048576) :
    Calls Tryz.prog 120 #[.string s] w fun e w' => e = .returned (.bool (fmtB s.data.toList)) ∧ w' = w := by
  have HLL := Lib.hid (show s.data.toList.length = s.size by simp)
  go_enter Tryz.func120, Tryz.ntmps120
  go_wp2_with fail
  go_loop [3] (fun i => ∃ k : Nat, k ≤ s.size ∧ i = .int .i64 (k : Int) ∧ Aside (∀ c ∈ s.data.toList.take k, fmtC c = true)) (fun i => s.size - (intOf i).toNat)
  case atStart => exact ⟨0, Nat.zero_le _, rfl, fun c hc => by simp at hc⟩
  case round =>
    obtain ⟨k, hk, rfl, hall⟩ := hrel
    have HA := Lib.hid hall.out
    clear hall
    by_cases hlt : k < s.size
    · obtain ⟨c8, hc8⟩ : ∃ c : UInt8, c = s[k]'hlt := ⟨_, rfl⟩
      have htk : s.data.toList.take (k + 1) = s.data.toList.take k ++ [c8] := by
        rw [List.take_succ_eq_append_getElem (by rw [HLL.out]; exact hlt), hc8]; rfl
      have hmem : c8 ∈ s.data.toList := by rw [hc8]; exact List.getElem_mem _
      have g0 : ∀ h, (s[k]'h).toNat = c8.toNat := fun _ => by rw [hc8]
      have d0 : decide (k < s.size) = true := by simp; omega
      have HT := Lib.hid htk
      have HM := Lib.hid hmem
      clear hc8 htk hmem
      cases hf : fmtC c8 with
      | true =>
        obtain ⟨x1, x2, x3, x4⟩ := fmt_ok hf
        have HF := Lib.hid hf
        clear hf
        go_wp2_with fail
        go_round
        case rel => exact ⟨k + 1, by omega, by go_num, fun c hc => by
          rw [HT.out] at hc
          rcases List.mem_append.1 hc with h | h
          · exact HA.out c h
          · simp at h; subst h; exact HF.out⟩
        case measure => simp [intOf]; omega
      | false =>
        have HB := Lib.hid (show fmtB s.data.toList = false by
          unfold fmtB
          rw [Bool.and_eq_false_iff]
          exact .inr (by rw [List.all_eq_false]; exact ⟨c8, HM.out, by rw [hf]; decide⟩))
        have hcs := fmt_not hf
        clear hf HT HM HA
        rcases hcs with x1 | ⟨x1, x2⟩ | ⟨x1, x2, x3⟩ | ⟨x1, x2, x3, x4⟩
        all_goals
          go_wp2_with fail
          go_ret
          exact ⟨by rw [HB.out]; rfl, rfl⟩
    · obtain rfl : k = s.size := by omega
      have d0 : decide (s.size < s.size) = false := by simp
      have HF := Lib.hid (show fmtB s.data.toList = decide (1 ≤ s.size ∧ s.size ≤ 20) by
        unfold fmtB
        have : s.data.toList.all fmtC = true := by
          rw [List.all_eq_true]
          intro c hc
          exact HA.out c (by rw [List.take_of_length_le (by rw [HLL.out]; omega)]; exact hc)
        rw [this, Bool.and_true, HLL.out])
      clear HA hk hlt
      by_cases h1 : 1 ≤ s.size
      · by_cases h2 : s.size ≤ 20
        · have z1 : (1 : Int) ≤ (s.size : Int) := by omega
          have z2 : (s.size : Int) ≤ 20 := by omega
          replace HF := Lib.hid (HF.out.trans (decide_eq_true ⟨h1, h2⟩))
          clear h1 h2
          go_wp2_with fail
          go_ret
          exact ⟨by rw [HF.out]; rfl, rfl⟩
        · have z1 : (1 : Int) ≤ (s.size : Int) := by omega
          have z2 : ¬ (s.size : Int) ≤ 20 := by omega
          replace HF := Lib.hid (HF.out.trans (decide_eq_false (fun h => h2 h.2)))
          clear h1 h2
          go_wp2_with fail
          go_ret
          exact ⟨by rw [HF.out]; rfl, rfl⟩
      · have z1 : ¬ (1 : Int) ≤ (s.size : Int) := by omega
        replace HF := Lib.hid (HF.out.trans (decide_eq_false (fun h => h1 h.1)))
        clear h1
        go_wp2_with fail
        go_ret
        exact ⟨by rw [HF.out]; rfl, rfl⟩

set_option maxHeartbeats 400000 in
theorem r11named_any (y : Int) (w : World) :
    Calls Tryz.prog 137 #[.int .i64 y] w fun e w' => e = .returned (.bool (namedB y)) ∧ w' = w := by
  obtain ⟨r, hr⟩ : ∃ r, namedB y = r := ⟨_, rfl⟩
  rw [hr]
  cases r with
  | true =>
    obtain ⟨h1, h2⟩ := of_decide_eq_true hr
    clear hr
    go_enter Tryz.func137, Tryz.ntmps137
    go_wp2_with fail
    go_ret
    exact ⟨rfl, rfl⟩
  | false =>
    have hc := of_decide_eq_false hr
    rcases (by omega : ¬ 1850 ≤ y ∨ (1850 ≤ y ∧ ¬ y ≤ 2149)) with h1 | ⟨h1, h2⟩
    all_goals
      clear hr hc
      go_enter Tryz.func137, Tryz.ntmps137
      go_wp2_with fail
      go_ret
      exact ⟨rfl, rfl⟩


set_option maxRecDepth 100000 in
set_option maxHeartbeats 1000000 in
theorem r11right_off (y m d1 d2 d3 h1 h2 : Int) (w : World) :
    Calls Tryz.prog 121 #[.agg #[.bool false, .int .i64 y, .int .i64 m, .int .i64 d1, .int .i64 d2, .int .i64 d3, .int .i64 h1, .int .i64 h2]] w fun e w' => e = .returned (.bool (untilOk ⟨false, y, m, (d1, d2, d3), (h1, h2)⟩)) ∧ Below w.heap.size w w' := by
  by_cases h : y = 0 ∧ m = 0 ∧ d1 = 0 ∧ d2 = 0 ∧ d3 = 0 ∧ h1 = 0 ∧ h2 = 0
  · obtain ⟨rfl, rfl, rfl, rfl, rfl, rfl, rfl⟩ := h
    rw [(untilOk_iff _).2 ((untilRight_off _ _ _ _ _ _ _).2 ⟨rfl, rfl, rfl, rfl, rfl, rfl, rfl⟩)]
    go_enter Tryz.func121, Tryz.ntmps121
    go_wp2_with fail
    go_ret
    exact ⟨rfl, by go_grown⟩
  · have HO := Lib.hid (show untilOk ⟨false, y, m, (d1, d2, d3), (h1, h2)⟩ = false by
      cases hx : untilOk ⟨false, y, m, (d1, d2, d3), (h1, h2)⟩ with
      | false => rfl
      | true => exact absurd ((untilRight_off _ _ _ _ _ _ _).1 ((untilOk_iff _).1 hx)) h)
    go_enter Tryz.func121, Tryz.ntmps121
    go_wp2_with fail
    all_goals
      go_ret
      exact ⟨by rw [HO.out]; rfl, by go_grown⟩
set_option maxRecDepth 100000 in
set_option maxHeartbeats 1000000 in
theorem r11right_on (y m d1 d2 d3 h1 h2 : Int) (w : World) :
    Calls Tryz.prog 121 #[.agg #[.bool true, .int .i64 y, .int .i64 m, .int .i64 d1, .int .i64 d2, .int .i64 d3, .int .i64 h1, .int .i64 h2]] w fun e w' => e = .returned (.bool (untilOk ⟨true, y, m, (d1, d2, d3), (h1, h2)⟩)) ∧ Below w.heap.size w w' := by
  have HO := Lib.hid (show untilOk ⟨true, y, m, (d1, d2, d3), (h1, h2)⟩ = (namedB y && decide (1 ≤ m ∧ m ≤ 12) && rightDay d1 d2 d3 && clockOk h1 h2) by simp [untilOk])
  have HDc := Lib.hid (fun W => rcheck_any d1 d2 d3 W)
  have HCc := Lib.hid (fun W => r6check_any h1 h2 W)
  have hB0 := (Below.refl w.heap.size w).alloc (Nat.le_refl _) (.cells #[.bool true, .int .i64 y, .int .i64 m, .int .i64 d1, .int .i64 d2, .int .i64 d3, .int .i64 h1, .int .i64 h2] 53)
  have HB0 := Lib.hid (And.intro (Blk.new' w 53 #[.bool true, .int .i64 y, .int .i64 m, .int .i64 d1, .int .i64 d2, .int .i64 d3, .int .i64 h1, .int .i64 h2] rfl) hB0)
  clear hB0
  have HNm := Lib.hid (fun W => calls_flip (r11named_any y W))
  cases hy : namedB y
  · rw [hy] at HNm HO
    clear hy HDc HCc
    go_enter Tryz.func121, Tryz.ntmps121
    go_wp2_with fail
    refine (HNm.out _).mono ?_
    rintro e w1 ⟨rfl, rfl⟩
    go_wp2_with fail
    go_ret
    exact ⟨by rw [HO.out]; rfl, HB0.out.2⟩
  rw [hy] at HNm HO
  by_cases hm : 1 ≤ m ∧ m ≤ 12
  case neg =>
    rw [decide_eq_false hm] at HO
    rcases (by omega : m < 1 ∨ (¬ m < 1 ∧ 12 < m)) with h | ⟨h, h'⟩
    all_goals
      clear hy HDc HCc hm
      go_enter Tryz.func121, Tryz.ntmps121
      go_wp2_with fail
      refine (HNm.out _).mono ?_
      rintro e w1 ⟨rfl, rfl⟩
      go_wp2_with fail
      go_ret
      exact ⟨by rw [HO.out]; rfl, HB0.out.2⟩
  rw [decide_eq_true hm] at HO
  obtain ⟨hm1, hm2⟩ := hm
  cases hd : rightDay d1 d2 d3
  · rw [hd] at HO
    replace HDc := Lib.hid (show ∀ W, Calls Tryz.prog 108 #[.agg #[.int .i64 d1, .int .i64 d2, .int .i64 d3]] W fun e w' => e = .returned (.int .i64 2) ∧ Below W.heap.size W w' from fun W => by have := HDc.out W; rwa [show checkR d1 d2 d3 = 2 from if_neg (by rw [hd]; decide)] at this)
    clear hy HCc hd
    go_enter Tryz.func121, Tryz.ntmps121
    go_wp2_with fail
    refine (HNm.out _).mono ?_
    rintro e w1 ⟨rfl, rfl⟩
    go_wp2_with fail
    refine (HDc.out _).mono ?_
    rintro e w1 ⟨rfl, hb1⟩
    have HB1 := Lib.hid (HB0.out.2.trans (hb1.mono HB0.out.2.size))
    clear hb1 HB0
    go_wp2_with fail
    go_ret
    exact ⟨by rw [HO.out]; rfl, HB1.out⟩
  rw [hd] at HO
  replace HDc := Lib.hid (show ∀ W, Calls Tryz.prog 108 #[.agg #[.int .i64 d1, .int .i64 d2, .int .i64 d3]] W fun e w' => e = .returned (.int .i64 0) ∧ Below W.heap.size W w' from fun W => by have := HDc.out W; rwa [show checkR d1 d2 d3 = 0 from if_pos hd] at this)
  obtain ⟨cb, hc⟩ : ∃ cb, clockOk h1 h2 = cb := ⟨_, rfl⟩
  rw [hc] at HO HCc
  clear hy hd hc
  go_enter Tryz.func121, Tryz.ntmps121
  go_wp2_with fail
  refine (HNm.out _).mono ?_
  rintro e w1 ⟨rfl, rfl⟩
  go_wp2_with fail
  refine (HDc.out _).mono ?_
  rintro e w1 ⟨rfl, hb1⟩
  have HB1 := Lib.hid (And.intro (HB0.out.1.below hb1 HB0.out.1.lt) (HB0.out.2.trans (hb1.mono HB0.out.2.size)))
  clear hb1 HB0
  obtain ⟨q0, q1, q2, q3, q4, q5, q6, q7⟩ : w1.cell? ⟨w.heap.size, 0, none⟩ = some (.bool true) ∧ w1.cell? ⟨w.heap.size, 1, none⟩ = some (.int .i64 y) ∧ w1.cell? ⟨w.heap.size, 2, none⟩ = some (.int .i64 m) ∧ w1.cell? ⟨w.heap.size, 3, none⟩ = some (.int .i64 d1) ∧ w1.cell? ⟨w.heap.size, 4, none⟩ = some (.int .i64 d2) ∧ w1.cell? ⟨w.heap.size, 5, none⟩ = some (.int .i64 d3) ∧ w1.cell? ⟨w.heap.size, 6, none⟩ = some (.int .i64 h1) ∧ w1.cell? ⟨w.heap.size, 7, none⟩ = some (.int .i64 h2) := ⟨HB1.out.1.cell_ rfl, HB1.out.1.cell_ rfl, HB1.out.1.cell_ rfl, HB1.out.1.cell_ rfl, HB1.out.1.cell_ rfl, HB1.out.1.cell_ rfl, HB1.out.1.cell_ rfl, HB1.out.1.cell_ rfl⟩
  go_wp2_with fail
  refine (HCc.out _).mono ?_
  rintro e w2 ⟨rfl, hb2⟩
  have HB2 := Lib.hid (HB1.out.2.trans (hb2.mono HB1.out.2.size))
  clear hb2 HB1 q0 q1 q2 q3 q4 q5 q6 q7
  cases cb
  all_goals
    go_wp2_with fail
    go_ret
    exact ⟨by rw [HO.out]; rfl, HB2.out⟩
theorem r11right_any (u : UntilP) (w : World) : Calls Tryz.prog 121 #[.agg u.arr] w fun e w' => e = .returned (.bool (untilOk u)) ∧ Below w.heap.size w w' := by
  obtain ⟨is, y, m, ⟨d1, d2, d3⟩, ⟨h1, h2⟩⟩ := u
  cases is
  · exact r11right_off y m d1 d2 d3 h1 h2 w
  · exact r11right_on y m d1 d2 d3 h1 h2 w


theorem eLetter' (s : ByteArray) (w : World) (hs : s.size ≤ 1048576) : Calls Tryz.prog 80 #[.string s] w fun e w' => e = .returned (.bool (ofB 1 4 1 s.data.toList)) ∧ w = w' := calls_flip (r7Letter_any s w hs)
theorem eSet' (s : ByteArray) (w : World) (hs : s.size ≤ 1048576) : Calls Tryz.prog 78 #[.string s] w fun e w' => e = .returned (.bool (setB s.data.toList)) ∧ w = w' := calls_flip (r7Set_any s w hs)
def RulesC (off : Int) (s : List UInt8) (e : Ending) : Prop := ∃ C : Array Value, e = .returned (.tuple #[.agg C, .int .i64 (rulesR s).2]) ∧ C.size = 13 ∧ C.all (·.oneCell') = true ∧ ((rulesR s).2 = 0 → C = #[.int .i64 off, .int .i64 (rulesR s).1.1, .int .i64 (rulesR s).1.2.1, .string ⟨(rulesR s).1.2.2.toArray⟩, .string ⟨#[]⟩, .bool false, .int .i64 0, .int .i64 0, .int .i64 0, .int .i64 0, .int .i64 0, .int .i64 0, .int .i64 0])
theorem RulesC.mk {off : Int} {s : List UInt8} {e : Ending} (kd sv : Int) (sn : ByteArray) (x : Int) (he : e = .returned (.tuple #[.agg #[.int .i64 off, .int .i64 kd, .int .i64 sv, .string sn, .string ⟨#[]⟩, .bool false, .int .i64 0, .int .i64 0, .int .i64 0, .int .i64 0, .int .i64 0, .int .i64 0, .int .i64 0], .int .i64 x])) (hx : (rulesR s).2 = x) (h : x = 0 → rulesR s = ((kd, sv, sn.data.toList), 0)) : RulesC off s e :=
  ⟨_, by rw [hx]; exact he, rfl, by simp [Value.oneCell'], fun h0 => by rw [h (hx ▸ h0)]⟩

end Go.Proofs.YtmcgbjjcpcgcfaaGreatDoor
