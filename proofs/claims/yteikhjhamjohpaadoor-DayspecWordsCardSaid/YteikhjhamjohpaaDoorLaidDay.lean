/-
  The listed variables give the tables that the walks of days ask for.
-/
import Derived.Test.YteikhjhamjohpaaDoorOpens
import Derived.Test.YteikhjhamjohpaaDoorLaw9
set_option linter.unusedVariables false
namespace Go.Proofs.YteikhjhamjohpaaDoor
open Go.RowKit

theorem gKinds : Tryd.prog.globalNamed "analemma/dayform.kinds" = some 0 := by kernel_rfl
theorem tKinds : (Tryd.prog.globals[0]?).map (·.type) = some 58 := by kernel_rfl
theorem gWeeks : Tryd.prog.globalNamed "analemma/word.weeks" = some 1 := by kernel_rfl
theorem tWeeks : (Tryd.prog.globals[1]?).map (·.type) = some 85 := by kernel_rfl
theorem gAscii : Tryd.prog.globalNamed "unicode.asciiFold" = some 2 := by kernel_rfl
theorem tAscii : (Tryd.prog.globals[2]?).map (·.type) = some 97 := by kernel_rfl
theorem gOrbit : Tryd.prog.globalNamed "unicode.caseOrbit" = some 3 := by kernel_rfl
theorem tOrbit : (Tryd.prog.globals[3]?).map (·.type) = some 98 := by kernel_rfl
theorem cString : Tryd.prog.cellsOf 9 = 1 := by kernel_rfl
theorem cU16 : Tryd.prog.cellsOf 35 = 1 := by kernel_rfl
theorem cBool : Tryd.prog.cellsOf 4 = 1 := by kernel_rfl
theorem cPair : Tryd.prog.cellsOf 100 = 2 := by kernel_rfl
theorem cKind : Tryd.prog.cellsOf 57 = 3 := by kernel_rfl

theorem weeks_of {W : World} (h : Lib.VarReads Tryd.prog W "analemma/word.weeks" Rows.laid_analemma_word_weeks) : Weeks W := by
  obtain ⟨g, t, cs, fuel, p, hg, ht, hv, hd⟩ := h
  obtain rfl := Option.some.inj (gWeeks.symm.trans hg)
  obtain rfl := Option.some.inj (tWeeks.symm.trans ht)
  intro i l hl
  have hd' : DataW.trod (fun _ => ()) Tryd.prog W 0 (fun _ => true) false fuel 85 cs.toList = some (.agg (weekL.map fun l => .lit (.string l)), p) := hd
  obtain ⟨m, q, h1⟩ := array_at Tryd.underlying85 hd' (i := i) (d := .lit (.string l)) (by rw [List.getElem?_map, hl]; rfl)
  rw [cString, Nat.mul_one] at h1
  have h2 := one_at (string_of Tryd.underlying9 h1)
  rw [World.var?_cell hg hv i, ← Array.getElem?_toList]
  exact h2

theorem cFunc : Tryd.prog.cellsOf 55 = 1 := by kernel_rfl
theorem add_none (b o n : Nat) : (⟨b, o, none⟩ : Addr).add n = ⟨b, o + n, none⟩ := by unfold Addr.add; split <;> simp_all
theorem one_of {l : List Value} {i : Nat} (h : i < l.length) : (l.drop i).take 1 = [l[i]] := by
  rw [List.drop_eq_getElem_cons h]; rfl
theorem fun1 : ((List.range Tryd.prog.funcs.size).filter fun f => (Tryd.prog.funcs[f]?).any (·.name.toUTF8.data.toList == [97, 110, 97, 108, 101, 109, 109, 97, 47, 100, 97, 121, 102, 111, 114, 109, 46, 107, 105, 110, 100, 115, 36, 49])) = [118] := by kernel_rfl
theorem fun2 : ((List.range Tryd.prog.funcs.size).filter fun f => (Tryd.prog.funcs[f]?).any (·.name.toUTF8.data.toList == [97, 110, 97, 108, 101, 109, 109, 97, 47, 100, 97, 121, 102, 111, 114, 109, 46, 107, 105, 110, 100, 115, 36, 50])) = [119] := by kernel_rfl
theorem fun3 : ((List.range Tryd.prog.funcs.size).filter fun f => (Tryd.prog.funcs[f]?).any (·.name.toUTF8.data.toList == [97, 110, 97, 108, 101, 109, 109, 97, 47, 100, 97, 121, 102, 111, 114, 109, 46, 107, 105, 110, 100, 115, 36, 51])) = [121] := by kernel_rfl
theorem fun4 : ((List.range Tryd.prog.funcs.size).filter fun f => (Tryd.prog.funcs[f]?).any (·.name.toUTF8.data.toList == [97, 110, 97, 108, 101, 109, 109, 97, 47, 100, 97, 121, 102, 111, 114, 109, 46, 107, 105, 110, 100, 115, 36, 52])) = [123] := by kernel_rfl

theorem kind_of {W : World} {fuel : Nat} {cs : List Value} {ds : List (DataW (List UInt8))} {p : List MemPlace} (hlen : cs.length = 15) (hd : DataW.trod (funcToken Tryd.prog) Tryd.prog W 0 (fun _ => true) true fuel 58 cs = some (.agg ds, p))
    {i : Nat} {a b : Bool} {c : UInt8} {r : List UInt8} {f0 : FuncId} (hi : ds[i]? = some (.agg [.lit (.bool a), .lit (.bool b), .held (c :: r)])) (h5 : i < 5)
    (hone : ((List.range Tryd.prog.funcs.size).filter fun f => (Tryd.prog.funcs[f]?).any (·.name.toUTF8.data.toList == c :: r)) = [f0]) :
    cs[i * 3]? = some (.bool a) ∧ cs[i * 3 + 1]? = some (.bool b) ∧ cs[i * 3 + 2]? = some (.func (.func f0) #[] #[]) := by
  obtain ⟨m, q, h1⟩ := array_at Tryd.underlying58 hd hi
  rw [cKind] at h1
  obtain ⟨m0, q0, k0⟩ := struct_at Tryd.underlying57 h1 (i := 0) rfl rfl
  obtain ⟨m1, q1, k1⟩ := struct_at Tryd.underlying57 h1 (i := 1) rfl rfl
  obtain ⟨m2, q2, k2⟩ := struct_at Tryd.underlying57 h1 (i := 2) rfl rfl
  have k0 : DataW.trod (funcToken Tryd.prog) Tryd.prog W 0 (fun _ => true) true m0 4 ((((cs.drop (i * 3)).take 3).drop 0).take (Tryd.prog.cellsOf 4)) = some (.lit (.bool a), q0) := k0
  have k1 : DataW.trod (funcToken Tryd.prog) Tryd.prog W 0 (fun _ => true) true m1 4 ((((cs.drop (i * 3)).take 3).drop 1).take (Tryd.prog.cellsOf 4)) = some (.lit (.bool b), q1) := k1
  have k2 : DataW.trod (funcToken Tryd.prog) Tryd.prog W 0 (fun _ => true) true m2 55 ((((cs.drop (i * 3)).take 3).drop 2).take (Tryd.prog.cellsOf 55)) = some (.held (c :: r), q2) := k2
  rw [cBool] at k0 k1
  rw [cFunc] at k2
  have e0 := in_at (one_at (bool_of Tryd.underlying4 k0))
  have e1 := in_at (one_at (bool_of Tryd.underlying4 k1))
  rw [one_of (by simp; omega)] at k2
  have e2 := func_of_trod Tryd.underlying55 hone k2
  refine ⟨by simpa using e0, e1, ?_⟩
  have h3 : ((cs.drop (i * 3)).take 3)[2]? = some (.func (.func f0) #[] #[]) := by rw [← e2]; exact List.getElem?_eq_getElem _
  exact in_at h3

def kindD : DataW Unit := .agg [.agg [.lit (.bool false), .lit (.bool false), .nil], .agg [.lit (.bool false), .lit (.bool true), .iface "func" (.lit (.string [97, 110, 97, 108, 101, 109, 109, 97, 47, 100, 97, 121, 102, 111, 114, 109, 46, 107, 105, 110, 100, 115, 36, 49]))], .agg [.lit (.bool true), .lit (.bool false), .iface "func" (.lit (.string [97, 110, 97, 108, 101, 109, 109, 97, 47, 100, 97, 121, 102, 111, 114, 109, 46, 107, 105, 110, 100, 115, 36, 50]))], .agg [.lit (.bool true), .lit (.bool true), .iface "func" (.lit (.string [97, 110, 97, 108, 101, 109, 109, 97, 47, 100, 97, 121, 102, 111, 114, 109, 46, 107, 105, 110, 100, 115, 36, 51]))], .agg [.lit (.bool true), .lit (.bool true), .iface "func" (.lit (.string [97, 110, 97, 108, 101, 109, 109, 97, 47, 100, 97, 121, 102, 111, 114, 109, 46, 107, 105, 110, 100, 115, 36, 52]))]]
theorem kinds_of {W : World} (h : funcsAt Tryd.prog W "analemma/dayform.kinds" kindD) : Kinds W := by
  obtain ⟨g, t, cs, fuel, p, hg, ht, hv, hd⟩ := h
  obtain rfl := Option.some.inj (gKinds.symm.trans hg)
  obtain rfl := Option.some.inj (tKinds.symm.trans ht)
  have hlen : cs.toList.length = 15 := by
    obtain ⟨_, _, _, _, hl, _⟩ := DataW.trod_array Tryd.underlying58 hd
    exact hl.trans (by kernel_rfl)
  have hd' : DataW.trod (funcToken Tryd.prog) Tryd.prog W 0 (fun _ => true) true fuel 58 cs.toList = some (.agg [.agg [.lit (.bool false), .lit (.bool false), .nil], .agg [.lit (.bool false), .lit (.bool true), .held [97, 110, 97, 108, 101, 109, 109, 97, 47, 100, 97, 121, 102, 111, 114, 109, 46, 107, 105, 110, 100, 115, 36, 49]], .agg [.lit (.bool true), .lit (.bool false), .held [97, 110, 97, 108, 101, 109, 109, 97, 47, 100, 97, 121, 102, 111, 114, 109, 46, 107, 105, 110, 100, 115, 36, 50]], .agg [.lit (.bool true), .lit (.bool true), .held [97, 110, 97, 108, 101, 109, 109, 97, 47, 100, 97, 121, 102, 111, 114, 109, 46, 107, 105, 110, 100, 115, 36, 51]], .agg [.lit (.bool true), .lit (.bool true), .held [97, 110, 97, 108, 101, 109, 109, 97, 47, 100, 97, 121, 102, 111, 114, 109, 46, 107, 105, 110, 100, 115, 36, 52]]], p) := hd
  obtain ⟨a1, b1, f1⟩ := kind_of hlen hd' (i := 1) rfl (by decide) fun1
  obtain ⟨a2, b2, f2⟩ := kind_of hlen hd' (i := 2) rfl (by decide) fun2
  obtain ⟨a3, b3, f3⟩ := kind_of hlen hd' (i := 3) rfl (by decide) fun3
  obtain ⟨a4, b4, f4⟩ := kind_of hlen hd' (i := 4) rfl (by decide) fun4
  have k : ∀ {i : Nat} {v : Value}, cs.toList[i]? = some v → W.cell? ⟨0, i, none⟩ = some v := fun hc => by
    rw [World.var?_cell hg hv, ← Array.getElem?_toList]; exact hc
  exact ⟨k a1, k b1, k a2, k b2, k a3, k b3, k a4, k b4, k f1, k f2, k f3, k f4⟩

theorem ascii_of {W : World} (h : Lib.VarReads Tryd.prog W "unicode.asciiFold" Rows.laid_unicode_asciiFold) : ∀ r v : Nat, (r, v) ∈ [(108, 76), (76, 108), (97, 65), (65, 97), (115, 383), (83, 115), (116, 84), (84, 116)] → W.cell? ⟨2, r, none⟩ = some (.int .u16 (v : Int)) := by
  obtain ⟨g, t, cs, fuel, p, hg, ht, hv, hd⟩ := h
  obtain rfl := Option.some.inj (gAscii.symm.trans hg)
  obtain rfl := Option.some.inj (tAscii.symm.trans ht)
  have k : ∀ {i : Nat} {v : Int} {ds : List (DataW Unit)}, DataW.trod (fun _ => ()) Tryd.prog W 0 (fun _ => true) false fuel 97 cs.toList = some (.agg ds, p) → ds[i]? = some (.lit (.int .u16 v)) → W.cell? ⟨2, i, none⟩ = some (.int .u16 v) := fun {i v ds} hd hi => by
    obtain ⟨m, q, h1⟩ := array_at Tryd.underlying97 hd hi
    rw [cU16, Nat.mul_one] at h1
    rw [World.var?_cell hg hv, ← Array.getElem?_toList]
    exact one_at (int_of Tryd.underlying35 h1)
  intro r v hm
  simp only [List.mem_cons, Prod.mk.injEq, List.not_mem_nil, or_false] at hm
  rcases hm with ⟨rfl, rfl⟩ | ⟨rfl, rfl⟩ | ⟨rfl, rfl⟩ | ⟨rfl, rfl⟩ | ⟨rfl, rfl⟩ | ⟨rfl, rfl⟩ | ⟨rfl, rfl⟩ | ⟨rfl, rfl⟩
  all_goals exact k hd rfl

theorem orbit_of {W : World} (h : Lib.VarReads Tryd.prog W "unicode.caseOrbit" Rows.laid_unicode_caseOrbit) : ∃ b o cap, W.cell? ⟨3, 0, none⟩ = some (.slice (some ⟨b, o, none⟩) 94 cap) ∧
    ∀ m v : Nat, (m, v) ∈ [(94, 966), (46, 837), (22, 452), (10, 197), (16, 304), (20, 383), (18, 305), (21, 83)] → W.cell? ⟨b, o + m, none⟩ = some (.int .u16 (v : Int)) := by
  obtain ⟨g, t, cs, fuel, p, hg, ht, hv, hd⟩ := h
  obtain rfl := Option.some.inj (gOrbit.symm.trans hg)
  obtain rfl := Option.some.inj (tOrbit.symm.trans ht)
  have k : ∀ {ds : List (DataW Unit)}, DataW.trod (fun _ => ()) Tryd.prog W 0 (fun _ => true) false fuel 98 cs.toList = some (.slice ds [], p) → (∃ x y : Int, ds[0]? = some (.agg [.lit (.int .u16 x), .lit (.int .u16 y)])) → ∃ b o cap, cs.toList = [.slice (some ⟨b, o, none⟩) ds.length cap] ∧
      (∀ i (x y : Int), ds[i]? = some (.agg [.lit (.int .u16 x), .lit (.int .u16 y)]) → W.cell? ⟨b, o + (i * 2), none⟩ = some (.int .u16 x) ∧ W.cell? ⟨b, o + (i * 2 + 1), none⟩ = some (.int .u16 y)) := fun {ds} hd h0 => by
    obtain ⟨a, cap, hcs, hel⟩ := slice_at Tryd.underlying98 hd
    have cell : ∀ i (x y : Int), ds[i]? = some (.agg [.lit (.int .u16 x), .lit (.int .u16 y)]) → W.cell? (a.add (i * 2)) = some (.int .u16 x) ∧ W.cell? (a.add (i * 2 + 1)) = some (.int .u16 y) := fun i x y hi => by
      obtain ⟨cl, m, q, hc, hr⟩ := hel i _ hi
      rw [cPair] at hc
      obtain ⟨m0, q0, k0⟩ := struct_at Tryd.underlying100 hr (i := 0) rfl rfl
      obtain ⟨m1, q1, k1⟩ := struct_at Tryd.underlying100 hr (i := 1) rfl rfl
      have k0 : DataW.trod (fun _ => ()) Tryd.prog W 0 (fun _ => true) false m0 35 ((cl.drop 0).take (Tryd.prog.cellsOf 35)) = some (.lit (.int .u16 x), q0) := k0
      have k1 : DataW.trod (fun _ => ()) Tryd.prog W 0 (fun _ => true) false m1 35 ((cl.drop 1).take (Tryd.prog.cellsOf 35)) = some (.lit (.int .u16 y), q1) := k1
      rw [cU16] at k0 k1
      have e0 := cells_at hc (one_at (int_of Tryd.underlying35 k0))
      have e1 := cells_at hc (one_at (int_of Tryd.underlying35 k1))
      rw [add_of_add] at e0 e1
      exact ⟨e0, e1⟩
    obtain ⟨x, y, h0⟩ := h0
    have hs := World.cell?_spot (cell 0 x y h0).1
    obtain ⟨b, o, spot⟩ := a
    obtain rfl : spot = none := by simpa [Addr.add] using hs
    refine ⟨b, o, cap, hcs, fun i x y hi => ?_⟩
    have := cell i x y hi
    rw [add_none, add_none] at this
    exact this
  obtain ⟨b, o, cap, hcs, hc⟩ := k hd ⟨_, _, rfl⟩
  refine ⟨b, o, cap, ?_, fun m v hm => ?_⟩
  · rw [World.var?_cell hg hv, ← Array.getElem?_toList, hcs]
    rfl
  · simp only [List.mem_cons, Prod.mk.injEq, List.not_mem_nil, or_false] at hm
    rcases hm with ⟨rfl, rfl⟩ | ⟨rfl, rfl⟩ | ⟨rfl, rfl⟩ | ⟨rfl, rfl⟩ | ⟨rfl, rfl⟩ | ⟨rfl, rfl⟩ | ⟨rfl, rfl⟩ | ⟨rfl, rfl⟩
    · exact (hc 47 _ _ rfl).1
    · exact (hc 23 _ _ rfl).1
    · exact (hc 11 _ _ rfl).1
    · exact (hc 5 _ _ rfl).1
    · exact (hc 8 _ _ rfl).1
    · exact (hc 10 _ _ rfl).1
    · exact (hc 9 _ _ rfl).1
    · exact (hc 10 _ _ rfl).2

theorem tabs_of {W : World} {l : List (String × DataW Unit)} (h : laidMetH Tryd.prog l W) (h1 : ("analemma/dayform.kinds", Rows.laid_analemma_dayform_kinds) ∈ l) (h2 : ("analemma/word.weeks", Rows.laid_analemma_word_weeks) ∈ l)
    (h3 : ("unicode.asciiFold", Rows.laid_unicode_asciiFold) ∈ l) (h4 : ("unicode.caseOrbit", Rows.laid_unicode_caseOrbit) ∈ l) : Tabs W :=
  ⟨kinds_of (h.funcs h1), weeks_of (reads_plain h h2 rfl), ascii_of (reads_plain h h3 rfl), orbit_of (reads_plain h h4 rfl)⟩
end Go.Proofs.YteikhjhamjohpaaDoor
