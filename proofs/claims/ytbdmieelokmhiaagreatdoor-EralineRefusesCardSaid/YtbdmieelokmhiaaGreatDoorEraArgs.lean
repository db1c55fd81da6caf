/-
  Arguments of the laws of eras, opened; the wrap of a contract that asks for the world's shape beside the listed variables.
-/
import Derived.Test.YtbdmieelokmhiaaGreatDoorRuleArgs
import Derived.Test.YtbdmieelokmhiaaGreatDoorEraPlain
set_option linter.unusedVariables false
set_option maxRecDepth 100000
namespace Go.Proofs.YtbdmieelokmhiaaGreatDoor
open Go.ChangeShapes Go.WideShapes Go.ChangeAt Go.RowKit
section
variable {H : Type} {enc : TypeId × Value → H} {w : World} {r : Reach} {base : Nat} {v : Value} {d : DataW H} {p : List MemPlace}
theorem open_strs_cap (hv : Value.okWide Tryz.prog w r base 22 v) (h : DataW.Trod enc Tryz.prog w 0 (fun _ => true) true 22 v d p) : ∃ A c, ∃ ls : List (List UInt8), v = .slice A ls.length c ∧ StrArg w A ls ∧ ls.length ≤ c := by
  obtain ⟨A, len, cap, rfl⟩ := okWide_slice Tryz.underlying22 hv
  obtain ⟨fuel, hf⟩ := h
  rcases open_strings Tryz.underlying22 Tryz.underlying9 cStr hf with ⟨hcs, hx⟩ | ⟨a, len', cap', ss, hcs, _, hl, hm, hz, hx, hcell, hws⟩
  · simp [Value.cells] at hcs
    obtain ⟨rfl, rfl, rfl⟩ := hcs
    exact ⟨none, 0, [], rfl, ⟨fun h => absurd rfl h⟩, Nat.le_refl _⟩
  · simp [Value.cells] at hcs
    obtain ⟨rfl, rfl, rfl⟩ := hcs
    have hz : ss.length = cap := by simpa using hz
    have hlen : ((ss.take len).map fun s => s.data.toList).length = len := by simp; omega
    refine ⟨some a, cap, (ss.take len).map fun s => s.data.toList, by rw [hlen], ⟨fun h0 => ?_⟩, by omega⟩
    have hpos : 0 < len := by
      rcases Nat.eq_zero_or_pos len with h | h
      · exact absurd (List.eq_nil_of_length_eq_zero (hlen.trans h)) h0
      · exact h
    have c0 := hcell 0 (by omega)
    have hs := World.cell?_spot c0
    obtain ⟨b, o, spot⟩ := a
    obtain rfl : spot = none := by simpa [Addr.add] using hs
    have add_none : ∀ n : Nat, (⟨b, o, none⟩ : Addr).add n = ⟨b, o + n, none⟩ := fun n => by unfold Addr.add; split <;> simp_all
    refine ⟨b, o, rfl, ?_, fun j l hl => ?_⟩
    · rw [add_none] at c0
      exact block_lt_of_cell c0
    · rw [List.getElem?_map] at hl
      cases hj : (ss.take len)[j]? with
      | none => rw [hj] at hl; cases hl
      | some s =>
        rw [hj] at hl
        have hl : s.data.toList = l := by simpa using hl
        subst hl
        rw [List.getElem?_take] at hj
        split at hj
        · have hjl : j < ss.length := (List.getElem?_eq_some_iff.1 hj).1
          have := hcell j hjl
          rw [add_none, List.getD_eq_getElem?_getD, hj] at this
          exact this
        · cases hj
end
/-- the contract, its listed variables and the shape of the world it starts in -/
theorem handed_of {H : Type} {enc : TypeId × Value → H} {C : Checked} {os : Os} {f : FuncId} {fn : Func} {s : ChangeSpec} {conds : List PathCond} {L : World → Prop} (hL : ∀ w w' : World, w.heap = w'.heap → L w → L w')
    (hown : ownKnob C.prog.godebug = none) (hst : os.Started) (hni : C.prog.inits.idxOf? f = none) (hfn : C.prog.funcs[f]? = some fn)
    (hwit : ∃ (w : World) (tape : Tape) (i : Input), w.os = os ∧ (w.forCall tape i).Shaped C.prog ∧ i.vars = [] ∧ Input.okWide C.prog (w.forCall tape i) .any w.heap.size f i ∧
      ((s.pre enc C.prog fn conds false (w.forCall tape i).memory i.args ∧ L (w.forCall tape i).memory) ∧ sizedMet enc C.prog fn (OpenSpec.ofChange s) false (w.forCall tape i).memory i.args) ∧ ({} : Assume).holds C.prog (lone (Frame.enter C.prog f i.args .normal) [] (w.forCall tape i)))
    (hc : ∀ (W : World) (base : Nat) (args : Array Value) (ds gs : List (DataW H)) (before : List MemPlace),
      (∀ (j : Nat) t v, fn.params[j]? = some t → args[j]? = some v → Value.okWide C.prog W .any base t v) → DataW.Whole enc C.prog fn.params.toList s.vars false W args.toList ds gs before → L W → W.ShapedOpen C.prog →
      Calls C.prog f args W fun e W' => ∃ v, e = .returned v ∧ s.post enc C.prog fn false true false false W args v W') :
    ReturnsInHanded {} C os f .any (fun w args => (s.pre enc C.prog fn conds false w args ∧ L w) ∧ sizedMet enc C.prog fn (OpenSpec.ofChange s) false w args) (s.post enc C.prog fn false true false false) := by
  refine returnsInHanded_of_calls hown hst hni hwit fun w tape i hos hshape hvars hok hpre hh => ?_
  have hval := hok
  obtain ⟨-, -, -, fn', h1, -, -, -, -, h2⟩ := hval
  cases Option.some.inj (h1.symm.trans hfn)
  obtain ⟨⟨⟨ds, gs, before, hw, -⟩, hl⟩, -⟩ := hpre
  exact (hc (w.forCall tape i) w.heap.size i.args ds gs before h2 (DataW.Whole.of_heap (w' := w.forCall tape i) (by rfl) hw) (hL _ _ (by rfl) hl) hshape).mono fun e W' ⟨v, he, hp⟩ => by
    subst he; exact ChangeSpec.post_blind hp
section
variable {w : World} {r : Reach} {base : Nat} {v : Value}
theorem cell_int {P : Program} {t : TypeId} {k : IntKind} (ht : P.underlying t = some (.int k)) (h : Cell.okWide P w r base t v) : ∃ n, v = .int k n ∧ k.has n := by
  unfold Cell.okWide at h
  rw [ht] at h
  unfold Cell.ok at h
  rw [ht] at h
  cases v <;> simp at h
  obtain ⟨rfl, h⟩ := h
  exact ⟨_, rfl, h⟩
theorem cell_str {P : Program} {t : TypeId} (ht : P.underlying t = some .string) (h : Cell.okWide P w r base t v) : ∃ s : ByteArray, v = .string s := by
  unfold Cell.okWide at h
  rw [ht] at h
  unfold Cell.ok at h
  rw [ht] at h
  cases v <;> simp at h
  exact ⟨_, rfl⟩
theorem has_u8 {n : Int} (h : IntKind.u8.has n) : 0 ≤ n ∧ n < 256 := by
  have e1 : IntKind.u8.min = 0 := by decide
  have e2 : IntKind.u8.max = 255 := by decide
  have h1 : IntKind.u8.min ≤ n ∧ n ≤ IntKind.u8.max := h
  rw [e1, e2] at h1
  omega
theorem has_u16 {n : Int} (h : IntKind.u16.has n) : 0 ≤ n ∧ n < 65536 := by
  have e1 : IntKind.u16.min = 0 := by decide
  have e2 : IntKind.u16.max = 65535 := by decide
  have h1 : IntKind.u16.min ≤ n ∧ n ≤ IntKind.u16.max := h
  rw [e1, e2] at h1
  omega
theorem has_i32 {n : Int} (h : IntKind.i32.has n) : -2147483648 ≤ n ∧ n ≤ 2147483647 := by
  have e1 : IntKind.i32.min = -2147483648 := by decide
  have e2 : IntKind.i32.max = 2147483647 := by decide
  have h1 : IntKind.i32.min ≤ n ∧ n ≤ IntKind.i32.max := h
  rw [e1, e2] at h1
  omega
theorem struct_cells {P : Program} {t : TypeId} {fs : Array Field} (ht : P.underlying t = some (.struct fs)) {ts : List TypeId} (hts : P.cellTypes P.depth t = some ts) (h : Value.okWide P w r base t v) :
    ∃ cs, v = .agg cs ∧ cs.size = P.cellsOf t ∧ ∀ (i : Nat) u x, ts[i % ts.length]? = some u → cs[i]? = some x → Cell.okWide P w r base u x := by
  unfold Value.okWide at h
  rw [ht] at h
  obtain ⟨cs, h1, h2, ts', h3, _, h4⟩ := h
  rw [hts] at h3
  cases h3
  exact ⟨cs, h1, h2, fun i u x hu hx => by obtain ⟨u', h5, h6⟩ := h4 i x hx; rw [hu] at h5; cases h5; exact h6⟩
theorem eleven {cs : Array Value} (h : cs.size = 11) : ∃ a0 a1 a2 a3 a4 a5 a6 a7 a8 a9 a10, cs = #[a0, a1, a2, a3, a4, a5, a6, a7, a8, a9, a10] := by
  obtain ⟨l⟩ := cs
  match l, h with
  | [a0, a1, a2, a3, a4, a5, a6, a7, a8, a9, a10], _ => exact ⟨_, _, _, _, _, _, _, _, _, _, _, rfl⟩
end
section
variable {w : World} {r : Reach} {base : Nat} {v : Value}
theorem cell_bool {P : Program} {t : TypeId} (ht : P.underlying t = some .bool) (h : Cell.okWide P w r base t v) : ∃ b : Bool, v = .bool b := by
  unfold Cell.okWide at h
  rw [ht] at h
  unfold Cell.ok at h
  rw [ht] at h
  cases v <;> simp at h
  exact ⟨_, rfl⟩
theorem thirteen {cs : Array Value} (h : cs.size = 13) : ∃ a0 a1 a2 a3 a4 a5 a6 a7 a8 a9 a10 a11 a12, cs = #[a0, a1, a2, a3, a4, a5, a6, a7, a8, a9, a10, a11, a12] := by
  obtain ⟨l⟩ := cs
  match l, h with
  | [a0, a1, a2, a3, a4, a5, a6, a7, a8, a9, a10, a11, a12], _ => exact ⟨_, _, _, _, _, _, _, _, _, _, _, _, _, rfl⟩
theorem cEEra : Tryz.prog.cellsOf 31 = 13 := by kernel_rfl
theorem tEEra : Tryz.prog.cellTypes Tryz.prog.depth 31 = some [2, 3, 2, 9, 9, 4, 3, 3, 3, 3, 3, 2, 3] := by kernel_rfl
theorem open_era (hv : Value.okWide Tryz.prog w r base 31 v) : ∃ x : EraP, v = .agg x.cells := by
  obtain ⟨cs, rfl, hs, hc⟩ := struct_cells Tryz.underlying31 tEEra hv
  obtain ⟨a0, a1, a2, a3, a4, a5, a6, a7, a8, a9, a10, a11, a12, rfl⟩ := thirteen (hs.trans cEEra)
  obtain ⟨n0, rfl, h0⟩ := cell_int Tryz.underlying2 (hc 0 _ _ rfl rfl)
  obtain ⟨n1, rfl, h1⟩ := cell_int Tryz.underlying3 (hc 1 _ _ rfl rfl)
  obtain ⟨n2, rfl, h2⟩ := cell_int Tryz.underlying2 (hc 2 _ _ rfl rfl)
  obtain ⟨n3, rfl⟩ := cell_str Tryz.underlying9 (hc 3 _ _ rfl rfl)
  obtain ⟨n4, rfl⟩ := cell_str Tryz.underlying9 (hc 4 _ _ rfl rfl)
  obtain ⟨n5, rfl⟩ := cell_bool Tryz.underlying4 (hc 5 _ _ rfl rfl)
  obtain ⟨n6, rfl, h6⟩ := cell_int Tryz.underlying3 (hc 6 _ _ rfl rfl)
  obtain ⟨n7, rfl, h7⟩ := cell_int Tryz.underlying3 (hc 7 _ _ rfl rfl)
  obtain ⟨n8, rfl, h8⟩ := cell_int Tryz.underlying3 (hc 8 _ _ rfl rfl)
  obtain ⟨n9, rfl, h9⟩ := cell_int Tryz.underlying3 (hc 9 _ _ rfl rfl)
  obtain ⟨n10, rfl, h10⟩ := cell_int Tryz.underlying3 (hc 10 _ _ rfl rfl)
  obtain ⟨n11, rfl, h11⟩ := cell_int Tryz.underlying2 (hc 11 _ _ rfl rfl)
  obtain ⟨n12, rfl, h12⟩ := cell_int Tryz.underlying3 (hc 12 _ _ rfl rfl)
  exact ⟨⟨n0, n1, n2, n3.data.toList, n4.data.toList, ⟨n5, n6, n7, (n8, n9, n10), (n11, n12)⟩⟩, rfl⟩
end
end Go.Proofs.YtbdmieelokmhiaaGreatDoor
