/-
  Arguments of the laws of eras, opened; the wrap of a contract that asks for the world's shape beside the listed variables.
-/
import Derived.Test.YtbdmieelokmhiaaGreatDoorRuleArgs
set_option linter.unusedVariables false
set_option maxRecDepth 100000
namespace Go.Proofs.YtbdmieelokmhiaaGreatDoor
open Go.ChangeShapes Go.WideShapes Go.ChangeAt Go.RowKit
section
variable {H : Type} {enc : TypeId × Value → H} {w : World} {r : Reach} {base : Nat} {v : Value} {d : DataW H} {p : List MemPlace}
theorem open_strs_cap (hv : Value.okWide Tryz.prog w r base 22 v) (h : DataW.Trod enc Tryz.prog w 0 (fun _ => true) true 22 v d p) : ∃ A c, ∃ ls : List (List UInt8), v = .slice A ls.length c ∧ StrArg w A ls ∧ ls.length ≤ c := by
  obtain ⟨A, len, cap, rfl⟩ := okWide_slice Tryz.underlying22 hv
  obtain ⟨fuel, hf⟩ := h
  rcases open_strings Tryz.underlying22 Tryz.underlying9 cStr hf with ⟨hcs, hx⟩ | ⟨a, len', cap', ss, hcs, _, hl, hm, hz, hx, hcell, hws⟩
  · simp [Value.cells] at hcs
    obtain ⟨rfl, rfl, rfl⟩ := hcs
    exact ⟨none, 0, [], rfl, ⟨fun h => absurd rfl h⟩, Nat.le_refl _⟩
  · simp [Value.cells] at hcs
    obtain ⟨rfl, rfl, rfl⟩ := hcs
    have hz : ss.length = cap := by simpa using hz
    have hlen : ((ss.take len).map fun s => s.data.toList).length = len := by simp; omega
    refine ⟨some a, cap, (ss.take len).map fun s => s.data.toList, by rw [hlen], ⟨fun h0 => ?_⟩, by omega⟩
    have hpos : 0 < len := by
      rcases Nat.eq_zero_or_pos len with h | h
      · exact absurd (List.eq_nil_of_length_eq_zero (hlen.trans h)) h0
      · exact h
    have c0 := hcell 0 (by omega)
    have hs := World.cell?_spot c0
    obtain ⟨b, o, spot⟩ := a
    obtain rfl : spot = none := by simpa [Addr.add] using hs
    have add_none : ∀ n : Nat, (⟨b, o, none⟩ : Addr).add n = ⟨b, o + n, none⟩ := fun n => by unfold Addr.add; split <;> simp_all
    refine ⟨b, o, rfl, ?_, fun j l hl => ?_⟩
    · rw [add_none] at c0
      exact block_lt_of_cell c0
    · rw [List.getElem?_map] at hl
      cases hj : (ss.take len)[j]? with
      | none => rw [hj] at hl; cases hl
      | some s =>
        rw [hj] at hl
        have hl : s.data.toList = l := by simpa using hl
        subst hl
        rw [List.getElem?_take] at hj
        split at hj
        · have hjl : j < ss.length := (List.getElem?_eq_some_iff.1 hj).1
          have := hcell j hjl
          rw [add_none, List.getD_eq_getElem?_getD, hj] at this
          exact this
        · cases hj
end
/-- the contract, its listed variables and the shape of the world it starts in -/
theorem handed_of {H : Type} {enc : TypeId × Value → H} {C : Checked} {os : Os} {f : FuncId} {fn : Func} {s : ChangeSpec} {conds : List PathCond} {L : World → Prop} (hL : ∀ w w' : World, w.heap = w'.heap → L w → L w')
    (hown : ownKnob C.prog.godebug = none) (hst : os.Started) (hni : C.prog.inits.idxOf? f = none) (hfn : C.prog.funcs[f]? = some fn)
    (hwit : ∃ (w : World) (tape : Tape) (i : Input), w.os = os ∧ (w.forCall tape i).Shaped C.prog ∧ i.vars = [] ∧ Input.okWide C.prog (w.forCall tape i) .any w.heap.size f i ∧
      ((s.pre enc C.prog fn conds false (w.forCall tape i).memory i.args ∧ L (w.forCall tape i).memory) ∧ sizedMet enc C.prog fn (OpenSpec.ofChange s) false (w.forCall tape i).memory i.args) ∧ ({} : Assume).holds C.prog (lone (Frame.enter C.prog f i.args .normal) [] (w.forCall tape i)))
    (hc : ∀ (W : World) (base : Nat) (args : Array Value) (ds gs : List (DataW H)) (before : List MemPlace),
      (∀ (j : Nat) t v, fn.params[j]? = some t → args[j]? = some v → Value.okWide C.prog W .any base t v) → DataW.Whole enc C.prog fn.params.toList s.vars false W args.toList ds gs before → L W → W.ShapedOpen C.prog →
      Calls C.prog f args W fun e W' => ∃ v, e = .returned v ∧ s.post enc C.prog fn false true false false W args v W') :
    ReturnsInHanded {} C os f .any (fun w args => (s.pre enc C.prog fn conds false w args ∧ L w) ∧ sizedMet enc C.prog fn (OpenSpec.ofChange s) false w args) (s.post enc C.prog fn false true false false) := by
  refine returnsInHanded_of_calls hown hst hni hwit fun w tape i hos hshape hvars hok hpre hh => ?_
  have hval := hok
  obtain ⟨-, -, -, fn', h1, -, -, -, -, h2⟩ := hval
  cases Option.some.inj (h1.symm.trans hfn)
  obtain ⟨⟨⟨ds, gs, before, hw, -⟩, hl⟩, -⟩ := hpre
  exact (hc (w.forCall tape i) w.heap.size i.args ds gs before h2 (DataW.Whole.of_heap (w' := w.forCall tape i) (by rfl) hw) (hL _ _ (by rfl) hl) hshape).mono fun e W' ⟨v, he, hp⟩ => by
    subst he; exact ChangeSpec.post_blind hp
end Go.Proofs.YtbdmieelokmhiaaGreatDoor
