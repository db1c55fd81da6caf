/-
  The listed variables give the tables that the walks of printers ask for.
  An argument of type api.Source, opened.
  The witness's world for the cards of printers: the table of kinds set, the other listed variables laid.
-/
import Derived.Test.YtmcgbjjcpcgcfaaGreatDoorRuleArgs
import Derived.Test.YtmcgbjjcpcgcfaaGreatDoorEraHead
import Derived.Test.YtmcgbjjcpcgcfaaGreatDoorRuleAll
import Derived.LaidLaws
import Derived.Lib.LaidTab
import Derived.Test.YtmcgbjjcpcgcfaaGreatDoorPWork
set_option linter.unusedVariables false
set_option maxRecDepth 100000
namespace Go.Proofs.YtmcgbjjcpcgcfaaGreatDoor
open Go.RowKit

theorem gKinds : Tryz.prog.globalNamed "analemma/dayform.kinds" = some 1 := by kernel_rfl
theorem tKinds : (Tryz.prog.globals[1]?).map (·.type) = some 153 := by kernel_rfl
theorem gWeeks : Tryz.prog.globalNamed "analemma/word.weeks" = some 2 := by kernel_rfl
theorem tWeeks : (Tryz.prog.globals[2]?).map (·.type) = some 154 := by kernel_rfl
theorem cString : Tryz.prog.cellsOf 9 = 1 := by kernel_rfl
theorem cBool : Tryz.prog.cellsOf 4 = 1 := by kernel_rfl
theorem cKind : Tryz.prog.cellsOf 152 = 3 := by kernel_rfl

theorem weeks_of {W : World} (h : Lib.VarReads Tryz.prog W "analemma/word.weeks" Rows.laid_analemma_word_weeks) : Weeks W := by
  obtain ⟨g, t, cs, fuel, p, hg, ht, hv, hd⟩ := h
  obtain rfl := Option.some.inj (gWeeks.symm.trans hg)
  obtain rfl := Option.some.inj (tWeeks.symm.trans ht)
  intro i l hl
  have hd' : DataW.trod (fun _ => ()) Tryz.prog W 0 (fun _ => true) false fuel 154 cs.toList = some (.agg (weekL.map fun l => .lit (.string l)), p) := hd
  obtain ⟨m, q, h1⟩ := array_at Tryz.underlying154 hd' (i := i) (d := .lit (.string l)) (by rw [List.getElem?_map, hl]; rfl)
  rw [cString, Nat.mul_one] at h1
  have h2 := one_at (string_of Tryz.underlying9 h1)
  rw [World.var?_cell hg hv i, ← Array.getElem?_toList]
  exact h2

theorem cFunc : Tryz.prog.cellsOf 150 = 1 := by kernel_rfl
theorem one_of {l : List Value} {i : Nat} (h : i < l.length) : (l.drop i).take 1 = [l[i]] := by
  rw [List.drop_eq_getElem_cons h]; rfl
theorem fun1 : ((List.range Tryz.prog.funcs.size).filter fun f => (Tryz.prog.funcs[f]?).any (·.name.toUTF8.data.toList == [97, 110, 97, 108, 101, 109, 109, 97, 47, 100, 97, 121, 102, 111, 114, 109, 46, 107, 105, 110, 100, 115, 36, 49])) = [195] := by kernel_rfl
theorem fun2 : ((List.range Tryz.prog.funcs.size).filter fun f => (Tryz.prog.funcs[f]?).any (·.name.toUTF8.data.toList == [97, 110, 97, 108, 101, 109, 109, 97, 47, 100, 97, 121, 102, 111, 114, 109, 46, 107, 105, 110, 100, 115, 36, 50])) = [196] := by kernel_rfl
theorem fun3 : ((List.range Tryz.prog.funcs.size).filter fun f => (Tryz.prog.funcs[f]?).any (·.name.toUTF8.data.toList == [97, 110, 97, 108, 101, 109, 109, 97, 47, 100, 97, 121, 102, 111, 114, 109, 46, 107, 105, 110, 100, 115, 36, 51])) = [198] := by kernel_rfl
theorem fun4 : ((List.range Tryz.prog.funcs.size).filter fun f => (Tryz.prog.funcs[f]?).any (·.name.toUTF8.data.toList == [97, 110, 97, 108, 101, 109, 109, 97, 47, 100, 97, 121, 102, 111, 114, 109, 46, 107, 105, 110, 100, 115, 36, 52])) = [200] := by kernel_rfl

theorem kind_of {W : World} {fuel : Nat} {cs : List Value} {ds : List (DataW (List UInt8))} {p : List MemPlace} (hlen : cs.length = 15) (hd : DataW.trod (funcToken Tryz.prog) Tryz.prog W 0 (fun _ => true) true fuel 153 cs = some (.agg ds, p))
    {i : Nat} {a b : Bool} {c : UInt8} {r : List UInt8} {f0 : FuncId} (hi : ds[i]? = some (.agg [.lit (.bool a), .lit (.bool b), .held (c :: r)])) (h5 : i < 5)
    (hone : ((List.range Tryz.prog.funcs.size).filter fun f => (Tryz.prog.funcs[f]?).any (·.name.toUTF8.data.toList == c :: r)) = [f0]) :
    cs[i * 3]? = some (.bool a) ∧ cs[i * 3 + 1]? = some (.bool b) ∧ cs[i * 3 + 2]? = some (.func (.func f0) #[] #[]) := by
  obtain ⟨m, q, h1⟩ := array_at Tryz.underlying153 hd hi
  rw [cKind] at h1
  obtain ⟨m0, q0, k0⟩ := struct_at Tryz.underlying152 h1 (i := 0) rfl rfl
  obtain ⟨m1, q1, k1⟩ := struct_at Tryz.underlying152 h1 (i := 1) rfl rfl
  obtain ⟨m2, q2, k2⟩ := struct_at Tryz.underlying152 h1 (i := 2) rfl rfl
  have k0 : DataW.trod (funcToken Tryz.prog) Tryz.prog W 0 (fun _ => true) true m0 4 ((((cs.drop (i * 3)).take 3).drop 0).take (Tryz.prog.cellsOf 4)) = some (.lit (.bool a), q0) := k0
  have k1 : DataW.trod (funcToken Tryz.prog) Tryz.prog W 0 (fun _ => true) true m1 4 ((((cs.drop (i * 3)).take 3).drop 1).take (Tryz.prog.cellsOf 4)) = some (.lit (.bool b), q1) := k1
  have k2 : DataW.trod (funcToken Tryz.prog) Tryz.prog W 0 (fun _ => true) true m2 150 ((((cs.drop (i * 3)).take 3).drop 2).take (Tryz.prog.cellsOf 150)) = some (.held (c :: r), q2) := k2
  rw [cBool] at k0 k1
  rw [cFunc] at k2
  have e0 := in_at (one_at (bool_of Tryz.underlying4 k0))
  have e1 := in_at (one_at (bool_of Tryz.underlying4 k1))
  rw [one_of (by simp; omega)] at k2
  have e2 := func_of_trod Tryz.underlying150 hone k2
  refine ⟨by simpa using e0, e1, ?_⟩
  have h3 : ((cs.drop (i * 3)).take 3)[2]? = some (.func (.func f0) #[] #[]) := by rw [← e2]; exact List.getElem?_eq_getElem _
  exact in_at h3

def kindD : DataW Unit := .agg [.agg [.lit (.bool false), .lit (.bool false), .nil], .agg [.lit (.bool false), .lit (.bool true), .iface "func" (.lit (.string [97, 110, 97, 108, 101, 109, 109, 97, 47, 100, 97, 121, 102, 111, 114, 109, 46, 107, 105, 110, 100, 115, 36, 49]))], .agg [.lit (.bool true), .lit (.bool false), .iface "func" (.lit (.string [97, 110, 97, 108, 101, 109, 109, 97, 47, 100, 97, 121, 102, 111, 114, 109, 46, 107, 105, 110, 100, 115, 36, 50]))], .agg [.lit (.bool true), .lit (.bool true), .iface "func" (.lit (.string [97, 110, 97, 108, 101, 109, 109, 97, 47, 100, 97, 121, 102, 111, 114, 109, 46, 107, 105, 110, 100, 115, 36, 51]))], .agg [.lit (.bool true), .lit (.bool true), .iface "func" (.lit (.string [97, 110, 97, 108, 101, 109, 109, 97, 47, 100, 97, 121, 102, 111, 114, 109, 46, 107, 105, 110, 100, 115, 36, 52]))]]
theorem kinds_of {W : World} (h : funcsAt Tryz.prog W "analemma/dayform.kinds" kindD) : Kinds W := by
  obtain ⟨g, t, cs, fuel, p, hg, ht, hv, hd⟩ := h
  obtain rfl := Option.some.inj (gKinds.symm.trans hg)
  obtain rfl := Option.some.inj (tKinds.symm.trans ht)
  have hlen : cs.toList.length = 15 := by
    obtain ⟨_, _, _, _, hl, _⟩ := DataW.trod_array Tryz.underlying153 hd
    exact hl.trans (by kernel_rfl)
  have hd' : DataW.trod (funcToken Tryz.prog) Tryz.prog W 0 (fun _ => true) true fuel 153 cs.toList = some (.agg [.agg [.lit (.bool false), .lit (.bool false), .nil], .agg [.lit (.bool false), .lit (.bool true), .held [97, 110, 97, 108, 101, 109, 109, 97, 47, 100, 97, 121, 102, 111, 114, 109, 46, 107, 105, 110, 100, 115, 36, 49]], .agg [.lit (.bool true), .lit (.bool false), .held [97, 110, 97, 108, 101, 109, 109, 97, 47, 100, 97, 121, 102, 111, 114, 109, 46, 107, 105, 110, 100, 115, 36, 50]], .agg [.lit (.bool true), .lit (.bool true), .held [97, 110, 97, 108, 101, 109, 109, 97, 47, 100, 97, 121, 102, 111, 114, 109, 46, 107, 105, 110, 100, 115, 36, 51]], .agg [.lit (.bool true), .lit (.bool true), .held [97, 110, 97, 108, 101, 109, 109, 97, 47, 100, 97, 121, 102, 111, 114, 109, 46, 107, 105, 110, 100, 115, 36, 52]]], p) := hd
  obtain ⟨a1, b1, f1⟩ := kind_of hlen hd' (i := 1) rfl (by decide) fun1
  obtain ⟨a2, b2, f2⟩ := kind_of hlen hd' (i := 2) rfl (by decide) fun2
  obtain ⟨a3, b3, f3⟩ := kind_of hlen hd' (i := 3) rfl (by decide) fun3
  obtain ⟨a4, b4, f4⟩ := kind_of hlen hd' (i := 4) rfl (by decide) fun4
  have k : ∀ {i : Nat} {v : Value}, cs.toList[i]? = some v → W.cell? ⟨1, i, none⟩ = some v := fun hc => by
    rw [World.var?_cell hg hv, ← Array.getElem?_toList]; exact hc
  exact ⟨k a1, k b1, k a2, k b2, k a3, k b3, k a4, k b4, k f1, k f2, k f3, k f4⟩

theorem gMonths : Tryz.prog.globalNamed "analemma/word.months" = some 0 := by kernel_rfl
theorem tMonths : (Tryz.prog.globals[0]?).map (·.type) = some 130 := by kernel_rfl
theorem months_of {W : World} (h : Lib.VarReads Tryz.prog W "analemma/word.months" Rows.laid_analemma_word_months) : Months W := by
  obtain ⟨g, t, cs, fuel, p, hg, ht, hv, hd⟩ := h
  obtain rfl := Option.some.inj (gMonths.symm.trans hg)
  obtain rfl := Option.some.inj (tMonths.symm.trans ht)
  intro i l hl
  have hd' : DataW.trod (fun _ => ()) Tryz.prog W 0 (fun _ => true) false fuel 130 cs.toList = some (.agg (monthL.map fun l => .lit (.string l)), p) := hd
  obtain ⟨m, q, h1⟩ := array_at Tryz.underlying130 hd' (i := i) (d := .lit (.string l)) (by rw [List.getElem?_map, hl]; rfl)
  rw [cString, Nat.mul_one] at h1
  have h2 := one_at (string_of Tryz.underlying9 h1)
  rw [World.var?_cell hg hv i, ← Array.getElem?_toList]
  exact h2
theorem tPows : (Tryz.prog.globals[3]?).map (·.type) = some 182 := by kernel_rfl
theorem pows_of {W : World} (h : Lib.VarReads Tryz.prog W "internal/strconv.uint64pow10" Rows.laid_internal_strconv_uint64pow10) : Pows W := by
  obtain ⟨g, t, cs, fuel, p, hg, ht, hv, hd⟩ := h
  obtain rfl := Option.some.inj (gPows.symm.trans hg)
  obtain rfl := Option.some.inj (tPows.symm.trans ht)
  have hd' : DataW.trod (fun _ => ()) Tryz.prog W 0 (fun _ => true) false fuel 182 cs.toList = some (Lib.tabData .u64 Lib.pow10Tab, p) := hd
  have h1 := Lib.cells_of_tab Tryz.underlying182 Tryz.underlying165 (by kernel_rfl) (by kernel_rfl) hd'
  show W.var? Tryz.prog "internal/strconv.uint64pow10" = some _
  rw [hv, ← h1]
theorem etabs_of {W : World} (h : laidMetH Tryz.prog Rows.printerSamesRow.laid W) : ETabs W :=
  ⟨kinds_of (h.funcs (List.mem_of_getElem? (i := 4) rfl)), weeks_of (reads_plain h (List.mem_of_getElem? (i := 6) rfl) rfl), months_of (reads_plain h (List.mem_of_getElem? (i := 5) rfl) rfl), pows_of (reads_plain h (List.mem_of_getElem? (i := 2) rfl) rfl)⟩
theorem rtabs_of {W : World} (h : laidMetH Tryz.prog Rows.printerSamesRow.laid W) : RTabs W :=
  ⟨(etabs_of h).kinds, (etabs_of h).weeks, (etabs_of h).months, (etabs_of h).pows⟩

open Go.ChangeShapes Go.WideShapes Go.ChangeAt Go.RowKit
section
variable {H : Type} {enc : TypeId × Value → H} {P : Program} {w : World} {base : Nat} {sp : Nat → Bool} {held : Bool} {fuel : Nat} {t : TypeId} {cs : List Value} {x : DataW H × List MemPlace}
theorem struct_f {fs : Array Field} (ht : P.underlying t = some (.struct fs)) (h : DataW.trod enc P w base sp held fuel t cs = some x) {i : Nat} {f : Field} (hf : fs[i]? = some f) :
    ∃ m y, DataW.trod enc P w base sp held m f.type ((cs.drop f.offset).take (P.cellsOf f.type)) = some y := by
  obtain ⟨xs, m, rfl, hx, hl, hxl, hall⟩ := DataW.trod_struct ht h
  have hi : i < xs.length := by
    rw [hxl]
    rcases Nat.lt_or_ge i fs.size with h | h
    · exact h
    · rw [Array.getElem?_eq_none h] at hf; cases hf
  exact ⟨m, xs[i], (hall i f hf).trans (List.getElem?_eq_getElem hi)⟩
theorem struct_len {fs : Array Field} (ht : P.underlying t = some (.struct fs)) (h : DataW.trod enc P w base sp held fuel t cs = some x) : cs.length = P.cellsOf t := by
  obtain ⟨xs, m, rfl, hx, hl, hxl, hall⟩ := DataW.trod_struct ht h
  exact hl
theorem list_eq {cl L : List Value} (h : cl.length = L.length) (h2 : ∀ i, i < L.length → cl[i]? = L[i]?) : cl = L := by
  apply List.ext_getElem?
  intro i
  rcases Nat.lt_or_ge i L.length with hi | hi
  · exact h2 i hi
  · rw [List.getElem?_eq_none (by omega), List.getElem?_eq_none hi]
theorem rows_open {α : Type} {e : TypeId} {k : Nat} {en : α → Array Value} {Q : α → Prop} (ht : P.underlying t = some (.slice e)) (hk : P.cellsOf e = k) (hk0 : 0 < k) (hen : ∀ a, (en a).size = k)
    (hdec : ∀ m cl y, DataW.trod enc P w base sp held m e cl = some y → ∃ a, cl = (en a).toList ∧ Q a) (h : DataW.trod enc P w base sp held fuel t cs = some x) : ∃ v xs, cs = [v] ∧ RowsAt w w.heap.size k en v xs ∧ ∀ a ∈ xs, Q a := by
  rcases DataW.trod_slice ht h with ⟨hcs, _⟩ | ⟨a, len, cap, elems, rest, n, _, hcs, hx, _, hl, _, hlen, hel, _⟩
  · exact ⟨_, [], hcs, ⟨none, 0, rfl, fun h => absurd rfl h⟩, fun a h => absurd h List.not_mem_nil⟩
  · have h1 : ∀ i : Fin len, ∃ a' : α, w.cells? base (a.add (i.1 * k)) k = some (en a').toList ∧ Q a' := fun i => by
      have hE := hel i.1 i.2
      rw [List.getElem?_eq_getElem (by omega)] at hE
      obtain ⟨cl, hc1, hc2⟩ := Option.bind_eq_some_iff.1 hE
      obtain ⟨a', rfl, hq⟩ := hdec _ _ _ hc2
      rw [hk] at hc1
      exact ⟨a', hc1, hq⟩
    obtain ⟨f, hf⟩ := Classical.axiomOfChoice h1
    refine ⟨_, List.ofFn f, hcs, ⟨some a, cap, by rw [List.length_ofFn], fun h0 => ?_⟩, fun a' ha => ?_⟩
    · have hpos : 0 < len := by
        rcases Nat.eq_zero_or_pos len with h | h
        · subst h; exact absurd rfl h0
        · exact h
      obtain ⟨v0, hv0⟩ : ∃ v0, (en (f ⟨0, hpos⟩)).toList[0]? = some v0 := ⟨_, List.getElem?_eq_getElem (by rw [Array.length_toList, hen]; exact hk0)⟩
      have c0 := cells_at (hf ⟨0, hpos⟩).1 hv0
      have hs := World.cell?_spot c0
      obtain ⟨b, o, spot⟩ := a
      obtain rfl : spot = none := by simpa [Addr.add] using hs
      have add_n : ∀ o n : Nat, (⟨b, o, none⟩ : Addr).add n = ⟨b, o + n, none⟩ := fun o n => by unfold Addr.add; split <;> simp_all
      rw [add_n, add_n] at c0
      refine ⟨b, o, rfl, block_lt_of_cell c0, fun i x hx j v hv => ?_⟩
      rw [List.getElem?_ofFn] at hx
      split at hx
      · rename_i hi
        simp only [Option.some.injEq] at hx
        subst hx
        have := cells_at (hf ⟨i, hi⟩).1 hv
        rwa [add_n, add_n] at this
      · cases hx
    · rw [List.mem_ofFn] at ha
      obtain ⟨i, rfl⟩ := ha
      exact (hf i).2
theorem okWide_agg {r : Reach} {v : Value} {fs : Array Field} (ht : P.underlying t = some (.struct fs)) (h : Value.okWide P w r base t v) : ∃ cs, v = .agg cs := by
  unfold Value.okWide at h
  rw [ht] at h
  obtain ⟨cs, h1, _⟩ := h
  exact ⟨cs, h1⟩
end
section
variable {H : Type} {enc : TypeId × Value → H} {w : World} {base : Nat} {sp : Nat → Bool} {held : Bool} {fuel : Nat} {cs : List Value} {x : DataW H × List MemPlace}
end

set_option maxRecDepth 100000

def laidD : List (String × DataW Unit) := Rows.printerSamesRow.laid
def plainD : List (String × DataW Unit) := laidD.filter fun x => x.2.handleName?.isNone
def kindCells : Array Value := #[.bool false, .bool false, .nilFunc, .bool false, .bool true, .func (.func 195) #[] #[], .bool true, .bool false, .func (.func 196) #[] #[], .bool true, .bool true, .func (.func 198) #[] #[], .bool true, .bool true, .func (.func 200) #[] #[]]
noncomputable def baseD (os : Os) : World :=
  { World.holding Tryz.prog os ⟨#[], #[], []⟩ with heap := (World.holding Tryz.prog os ⟨#[], #[], []⟩).heap.modify 1 fun
      | .cells _ t frozen => .cells kindCells t frozen
      | o => o }
noncomputable def witD (os : Os) : World := (baseD os).layVars Tryz.prog plainD
theorem witD_os (os : Os) : (witD os).os = os := World.layVars_os _ _ _
theorem witD_plain (os : Os) (args : Array Value) : laidMet Tryz.prog plainD ((witD os).forCall (fun _ _ => 0) ⟨#[], args, []⟩).memory := by
  have e1 : (plainD.filter fun x => (plainD.map (·.1)).contains x.1) = plainD := List.filter_eq_self.2 fun x hx => List.contains_iff_mem.2 (List.mem_map.2 ⟨x, hx, rfl⟩)
  have e2 : (plainD.filter fun x => !(plainD.map (·.1)).contains x.1) = [] := List.filter_eq_nil_iff.2 fun x hx => by rw [List.contains_iff_mem.2 (List.mem_map.2 ⟨x, hx, rfl⟩)]; simp
  have hf : (baseD os).layFits Tryz.prog plainD [] = true := by kernel_rfl
  have hi : (baseD os).layIfaces Tryz.prog plainD (witD os) = true := by kernel_rfl
  have h : laidMet Tryz.prog plainD (witD os) := laidMet_layVars (w0 := baseD os) (plainD.map (·.1)) [] (by rw [e1]; rfl) (by rw [e1]; exact hf) (by rw [e1]; exact hi) (by rw [e2]; exact LaidIn.none)
  exact h.of_heap (by simp [World.memory, World.forCall, Input.heap])
theorem witD_met (os : Os) (args : Array Value) : laidMetH Tryz.prog laidD ((witD os).forCall (fun _ _ => 0) ⟨#[], args, []⟩).memory :=
  laidMetH_of_parts3 (fuel := 8) (witD_plain os args) (by kernel_rfl) (by kernel_rfl)
theorem witD_shaped (os : Os) : (witD os).Shaped Tryz.prog := World.shaped_of_ZipB (by kernel_rfl) (by kernel_rfl)
end Go.Proofs.YtmcgbjjcpcgcfaaGreatDoor
