/-
  Arguments of the laws, opened: a draft, a rule.
-/
import Derived.Test.YtgfnnmdngckmmaaGreatDoorRuleArgs
import Derived.Test.YtgfnnmdngckmmaaGreatDoorRuleDraft
set_option linter.unusedVariables false
set_option maxRecDepth 100000
namespace Go.Proofs.YtgfnnmdngckmmaaGreatDoor
open Go.ChangeShapes Go.WideShapes Go.ChangeAt Go.RowKit
section
variable {w : World} {r : Reach} {base : Nat} {v : Value}
theorem cell_int {P : Program} {t : TypeId} {k : IntKind} (ht : P.underlying t = some (.int k)) (h : Cell.okWide P w r base t v) : ∃ n, v = .int k n ∧ k.has n := by
  unfold Cell.okWide at h
  rw [ht] at h
  unfold Cell.ok at h
  rw [ht] at h
  cases v <;> simp at h
  obtain ⟨rfl, h⟩ := h
  exact ⟨_, rfl, h⟩
theorem cell_str {P : Program} {t : TypeId} (ht : P.underlying t = some .string) (h : Cell.okWide P w r base t v) : ∃ s : ByteArray, v = .string s := by
  unfold Cell.okWide at h
  rw [ht] at h
  unfold Cell.ok at h
  rw [ht] at h
  cases v <;> simp at h
  exact ⟨_, rfl⟩
theorem has_u8 {n : Int} (h : IntKind.u8.has n) : 0 ≤ n ∧ n < 256 := by
  have e1 : IntKind.u8.min = 0 := by decide
  have e2 : IntKind.u8.max = 255 := by decide
  have h1 : IntKind.u8.min ≤ n ∧ n ≤ IntKind.u8.max := h
  rw [e1, e2] at h1
  omega
theorem has_u16 {n : Int} (h : IntKind.u16.has n) : 0 ≤ n ∧ n < 65536 := by
  have e1 : IntKind.u16.min = 0 := by decide
  have e2 : IntKind.u16.max = 65535 := by decide
  have h1 : IntKind.u16.min ≤ n ∧ n ≤ IntKind.u16.max := h
  rw [e1, e2] at h1
  omega
theorem has_i32 {n : Int} (h : IntKind.i32.has n) : -2147483648 ≤ n ∧ n ≤ 2147483647 := by
  have e1 : IntKind.i32.min = -2147483648 := by decide
  have e2 : IntKind.i32.max = 2147483647 := by decide
  have h1 : IntKind.i32.min ≤ n ∧ n ≤ IntKind.i32.max := h
  rw [e1, e2] at h1
  omega
theorem struct_cells {P : Program} {t : TypeId} {fs : Array Field} (ht : P.underlying t = some (.struct fs)) {ts : List TypeId} (hts : P.cellTypes P.depth t = some ts) (h : Value.okWide P w r base t v) :
    ∃ cs, v = .agg cs ∧ cs.size = P.cellsOf t ∧ ∀ (i : Nat) u x, ts[i % ts.length]? = some u → cs[i]? = some x → Cell.okWide P w r base u x := by
  unfold Value.okWide at h
  rw [ht] at h
  obtain ⟨cs, h1, h2, ts', h3, _, h4⟩ := h
  rw [hts] at h3
  cases h3
  exact ⟨cs, h1, h2, fun i u x hu hx => by obtain ⟨u', h5, h6⟩ := h4 i x hx; rw [hu] at h5; cases h5; exact h6⟩
theorem eleven {cs : Array Value} (h : cs.size = 11) : ∃ a0 a1 a2 a3 a4 a5 a6 a7 a8 a9 a10, cs = #[a0, a1, a2, a3, a4, a5, a6, a7, a8, a9, a10] := by
  obtain ⟨l⟩ := cs
  match l, h with
  | [a0, a1, a2, a3, a4, a5, a6, a7, a8, a9, a10], _ => exact ⟨_, _, _, _, _, _, _, _, _, _, _, rfl⟩
theorem cDraft : Tryz.prog.cellsOf 41 = 11 := by kernel_rfl
theorem tDraft : Tryz.prog.cellTypes Tryz.prog.depth 41 = some [5, 5, 37, 37, 5, 5, 5, 5, 21, 21, 5] := by kernel_rfl
theorem open_draft (hv : Value.okWide Tryz.prog w r base 41 v) : ∃ d : DraftP, v = .agg d.cells ∧ d.Ok := by
  obtain ⟨cs, rfl, hs, hc⟩ := struct_cells Tryz.underlying41 tDraft hv
  obtain ⟨a0, a1, a2, a3, a4, a5, a6, a7, a8, a9, a10, rfl⟩ := eleven (hs.trans cDraft)
  obtain ⟨n0, rfl, h0⟩ := cell_int Tryz.underlying5 (hc 0 _ _ rfl rfl)
  obtain ⟨n1, rfl, h1⟩ := cell_int Tryz.underlying5 (hc 1 _ _ rfl rfl)
  obtain ⟨n2, rfl, h2⟩ := cell_int Tryz.underlying37 (hc 2 _ _ rfl rfl)
  obtain ⟨n3, rfl, h3⟩ := cell_int Tryz.underlying37 (hc 3 _ _ rfl rfl)
  obtain ⟨n4, rfl, h4⟩ := cell_int Tryz.underlying5 (hc 4 _ _ rfl rfl)
  obtain ⟨n5, rfl, h5⟩ := cell_int Tryz.underlying5 (hc 5 _ _ rfl rfl)
  obtain ⟨n6, rfl, h6⟩ := cell_int Tryz.underlying5 (hc 6 _ _ rfl rfl)
  obtain ⟨n7, rfl, h7⟩ := cell_int Tryz.underlying5 (hc 7 _ _ rfl rfl)
  obtain ⟨n8, rfl, h8⟩ := cell_int Tryz.underlying21 (hc 8 _ _ rfl rfl)
  obtain ⟨n9, rfl, h9⟩ := cell_int Tryz.underlying21 (hc 9 _ _ rfl rfl)
  obtain ⟨n10, rfl, h10⟩ := cell_int Tryz.underlying5 (hc 10 _ _ rfl rfl)
  replace h0 := has_u8 h0
  obtain ⟨m0, rfl⟩ := Int.eq_ofNat_of_zero_le h0.1
  replace h1 := has_u8 h1
  obtain ⟨m1, rfl⟩ := Int.eq_ofNat_of_zero_le h1.1
  replace h2 := has_u16 h2
  obtain ⟨m2, rfl⟩ := Int.eq_ofNat_of_zero_le h2.1
  replace h3 := has_u16 h3
  obtain ⟨m3, rfl⟩ := Int.eq_ofNat_of_zero_le h3.1
  replace h4 := has_u8 h4
  obtain ⟨m4, rfl⟩ := Int.eq_ofNat_of_zero_le h4.1
  replace h5 := has_u8 h5
  obtain ⟨m5, rfl⟩ := Int.eq_ofNat_of_zero_le h5.1
  replace h6 := has_u8 h6
  obtain ⟨m6, rfl⟩ := Int.eq_ofNat_of_zero_le h6.1
  replace h7 := has_u8 h7
  obtain ⟨m7, rfl⟩ := Int.eq_ofNat_of_zero_le h7.1
  replace h8 := has_i32 h8
  replace h9 := has_i32 h9
  replace h10 := has_u8 h10
  obtain ⟨m10, rfl⟩ := Int.eq_ofNat_of_zero_le h10.1
  exact ⟨⟨m0, m1, m2, m3, m4, m5, m6, m7, n8, n9, m10⟩, rfl, ⟨by simp only; omega, by simp only; omega, by simp only; omega, by simp only; omega, by simp only; omega, by simp only; omega, by simp only; omega, by simp only; omega, h8, h9, by simp only; omega⟩⟩
theorem cRule : Tryz.prog.cellsOf 29 = 11 := by kernel_rfl
theorem tRule : Tryz.prog.cellTypes Tryz.prog.depth 29 = some [9, 3, 3, 3, 3, 3, 3, 2, 3, 2, 9] := by kernel_rfl
theorem open_rule (hv : Value.okWide Tryz.prog w r base 29 v) : ∃ x : RuleP, v = ruleV x := by
  obtain ⟨cs, rfl, hs, hc⟩ := struct_cells Tryz.underlying29 tRule hv
  obtain ⟨a0, a1, a2, a3, a4, a5, a6, a7, a8, a9, a10, rfl⟩ := eleven (hs.trans cRule)
  obtain ⟨n0, rfl⟩ := cell_str Tryz.underlying9 (hc 0 _ _ rfl rfl)
  obtain ⟨n1, rfl, h1⟩ := cell_int Tryz.underlying3 (hc 1 _ _ rfl rfl)
  obtain ⟨n2, rfl, h2⟩ := cell_int Tryz.underlying3 (hc 2 _ _ rfl rfl)
  obtain ⟨n3, rfl, h3⟩ := cell_int Tryz.underlying3 (hc 3 _ _ rfl rfl)
  obtain ⟨n4, rfl, h4⟩ := cell_int Tryz.underlying3 (hc 4 _ _ rfl rfl)
  obtain ⟨n5, rfl, h5⟩ := cell_int Tryz.underlying3 (hc 5 _ _ rfl rfl)
  obtain ⟨n6, rfl, h6⟩ := cell_int Tryz.underlying3 (hc 6 _ _ rfl rfl)
  obtain ⟨n7, rfl, h7⟩ := cell_int Tryz.underlying2 (hc 7 _ _ rfl rfl)
  obtain ⟨n8, rfl, h8⟩ := cell_int Tryz.underlying3 (hc 8 _ _ rfl rfl)
  obtain ⟨n9, rfl, h9⟩ := cell_int Tryz.underlying2 (hc 9 _ _ rfl rfl)
  obtain ⟨n10, rfl⟩ := cell_str Tryz.underlying9 (hc 10 _ _ rfl rfl)
  exact ⟨⟨n0.data.toList, n1, n2, n3, (n4, n5, n6), (n7, n8), n9, n10.data.toList⟩, rfl⟩
end
end Go.Proofs.YtgfnnmdngckmmaaGreatDoor
