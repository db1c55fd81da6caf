/-
  Appends in drawn regions: what an append yields there, and what it leaves as it was.
-/
import Derived.Test.YtmcgbjjcpcgcfaaGreatDoorDayAll
import Derived.Test.YtmcgbjjcpcgcfaaGreatDoorRelG
set_option linter.unusedVariables false
set_option linter.unusedSimpArgs false
namespace Go.Proofs.YtmcgbjjcpcgcfaaGreatDoor
open Go.RowKit

/-- a row of the call's own -/
def OwnR (e k B n : Nat) (cs : List Value) (v : Value) (W : World) : Prop := W.ownsRow B e k v n cs
theorem OwnR.kept_ {e k B n : Nat} {cs : List Value} {v : Value} {w w' : World} (h : OwnR e k B n cs v w) (hb : Below w.heap.size w w') : OwnR e k B n cs v w' :=
  World.ownsRow.kept (row := none) h ⟨hb.os, hb.tape, hb.output, hb.size, fun j hj _ => hb.block j hj⟩ (by cases hv : v.ownBlock <;> simp)
theorem OwnR.last (e k B n : Nat) (cs : List Value) : Lasts (OwnR e k B n cs) := fun _ _ _ hb h => h.kept_ hb
/-- an empty row without room -/
def Nil0 (e k B : Nat) (v : Value) (W : World) : Prop := W.ownsRow B e k v 0 [] ∧ ∃ g, B ≤ g ∧ g < W.heap.size ∧ v = .slice (some ⟨g, 0, none⟩) 0 0
theorem Nil0.last (e k B : Nat) : Lasts (Nil0 e k B) := fun _ _ _ hb h => ⟨OwnR.kept_ h.1 hb, by obtain ⟨g, h1, h2, h3⟩ := h.2; exact ⟨g, h1, Nat.lt_of_lt_of_le h2 hb.size, h3⟩⟩
theorem Nil0.made {e k B : Nat} (w : World) (hB : B ≤ w.heap.size) : Nil0 e k B (.slice (some ⟨w.heap.size, 0, none⟩) 0 0) (w.alloc (.cells #[] e)) :=
  ⟨World.ownsRow_made w #[] 0 hB (Nat.zero_le _) (by simp), w.heap.size, hB, by simp, rfl⟩
theorem own_apart {W : World} {B e k n B' e' k' n' : Nat} {v v' : Value} {xs xs' : List Value} (h : W.ownsRow B e k v n xs) (h' : W.ownsRow B' e' k' v' n' xs') (hne : e ≠ e') : v.ownBlock = none ∨ v.ownBlock ≠ v'.ownBlock := by
  rcases h.2 with ⟨rfl, _⟩ | ⟨g, cap, cur, rfl, _, hg, _⟩
  · exact .inl rfl
  · right
    rcases h'.2 with ⟨rfl, _⟩ | ⟨g', cap', cur', rfl, _, hg', _⟩
    · simp [Value.ownBlock]
    · intro hh
      simp [Value.ownBlock] at hh
      subst hh
      rw [hg] at hg'
      injection hg' with hx
      injection hx with _ hx _
      exact hne hx
theorem blk_grown {W W' : World} {g T : Nat} {C : Array Value} {B e k n : Nat} {v : Value} {xs : List Value} (h : Blk W g T C) (hg : W.grownBy W' v.ownBlock) (ho : W.ownsRow B e k v n xs) (hne : T ≠ e) : Blk W' g T C := by
  have hlt := h.lt
  rcases ho.2 with ⟨rfl, _⟩ | ⟨g', cap, cur, rfl, _, hg', _⟩
  · exact (hg.block g hlt (by simp [Value.ownBlock])).trans h
  · refine (hg.block g hlt ?_).trans h
    intro hh
    simp [Value.ownBlock] at hh
    subst hh
    unfold Blk at h
    rw [h] at hg'
    injection hg' with hx
    injection hx with _ hx _
    exact hne hx
/-- a store into a block of another type -/
theorem own_farT {B q j k n e T : Nat} {v : Value} {xs : List Value} {W : World} {C : Array Value} (h : W.ownsRow B e k v n xs) (hq : Blk W q T C) (hne : e ≠ T) (u : Value) : (W.setCell ⟨q, j, none⟩ u).ownsRow B e k v n xs := by
  refine ⟨h.1, ?_⟩
  rcases h.2 with h2 | ⟨g, cap, cur, e1, hg, hh, rest⟩
  · exact .inl h2
  · refine .inr ⟨g, cap, cur, e1, hg, Blk.far (show Blk W g e cur from hh) (fun hx => ?_) u, rest⟩
    have hx : g = q := hx
    subst hx
    unfold Blk at hq
    rw [hh] at hq
    injection hq with hy
    injection hy with _ hy _
    exact hne hy
/-- a row of one element that is to be appended -/
def One (e L : Nat) (C : Array Value) (u : Value) (W : World) : Prop := ∃ g, u = .slice (some ⟨g, 0, none⟩) 1 1 ∧ Blk W g e C ∧ L ≤ g
theorem One.last (e L : Nat) (C : Array Value) : Lasts (One e L C) := fun _ _ _ hb ⟨g, h1, h2, h3⟩ => ⟨g, h1, h2.below hb h2.lt, h3⟩
section
variable {P : Program}
theorem run_append0 (w : World) (B t ty e : Nat) (i : TypeInfo) (z : Value) (size : Nat) (ht : P.underlying t = some (.slice e)) (hi : P.info? e = some i) (hz : i.zero = some z) (hsize : i.size = size) (hby : i.bytes ≤ 1000) (hzs : z.cells.size = size) (hsz : 0 < size)
    (v : Value) (hv : Nil0 e size B v w) (n₀ : Nat) (p : Option Addr) (m c : Nat) (news : List Value) (hr : Reads w n₀ size p m news) (h1 : ∀ u ∈ news, u.oneCell' = true) (hm : m ≤ 1048576) :
    ∃ v' w', (Builtin.append_ #[t, t] ty #[v, .slice p m c]).run P w = .ok v' w' ∧ w'.ownsRow B e size v' m news ∧ Below w.heap.size w w' := by
  obtain ⟨ho, g, hBg, hg, rfl⟩ := hv
  by_cases h0 : m = 0
  · subst h0
    have hn : news = [] := List.eq_nil_of_length_eq_zero (by simpa using hr.1)
    subst hn
    refine ⟨_, _, ?_, ho, Below.refl _ _⟩
    cases p with
    | none => simp [Builtin.append_, run_underlying ht, sizeOf, typeInfo, hi, Builtin.lenOf, Builtin.firstCells, storeCells]
    | some a =>
      have hf := run_firstCells_some (P := P) w i.size 0 a 0 c [] (by simp) (by simp)
      simp [Builtin.append_, run_underlying ht, sizeOf, typeInfo, hi, Builtin.lenOf, hf, storeCells]
  · obtain ⟨a, rfl, _, hc⟩ := hr.2 (by omega)
    have hb2 : (0 + m) * i.bytes ≤ 140737488355328 := by
      have : (0 + m) * i.bytes ≤ 1048576 * 1000 := Nat.mul_le_mul (by omega) hby
      omega
    obtain ⟨v', w', hrun, hown, _, _⟩ := run_append_own (P := P) w B t ty e i z size i.bytes ht hi hz hsize rfl hzs hsz _ 0 [] ho a m c news hr.1 hc h1 (by unfold maxLen; omega) hb2 (by omega)
    have hrun2 := run_append_grow (P := P) w t ty e i z ht hi hz ⟨g, 0, none⟩ 0 0 [] (by simp) (by simp) a m c news (by rw [hsize]; exact hr.1) hc (by omega) (by omega) (growslice_fits (by omega) hb2)
    refine ⟨v', w', hrun, by simpa using hown, ?_⟩
    rw [hrun] at hrun2
    injection hrun2 with _ hw
    rw [hw]
    exact ((Below.refl _ _).drew).alloc (Nat.le_refl _) _
theorem relAt_append0 {o : Oper} {a : Act} {w : World} {s x : Operand} {t e : Nat} (ho : o.op = .call { callee := .builtin .append, args := #[s, x], argTypes := #[t, t] }) (B : Nat) (i : TypeInfo) (z : Value) (size : Nat) (ht : P.underlying t = some (.slice e)) (hi : P.info? e = some i) (hz : i.zero = some z) (hsize : i.size = size) (hby : i.bytes ≤ 1000) (hzs : z.cells.size = size) (hsz : 0 < size)
    (v : Value) (hs : a.eval s = v) (hv : Nil0 e size B v w) (n₀ : Nat) (p : Option Addr) (m c : Nat) (news : List Value) (hx : a.eval x = .slice p m c) (hr : Reads w n₀ size p m news) (h1 : ∀ u ∈ news, u.oneCell' = true) (hm : m ≤ 1048576) : relAt P o a w (OwnR e size B m news) := by
  obtain ⟨v', w', hrun, hown, hb⟩ := run_append0 w B t o.type e i z size ht hi hz hsize hby hzs hsz v hv n₀ p m c news hr h1 hm
  unfold relAt
  simp [execOp, ho, resolve, invoke, builtin, hs, hx, hrun, Result.andThen]
  exact ⟨hb, hown⟩
/-- an own row, grown: its blocks apart from it stand -/
def GOwn (e k B n : Nat) (xs : List Value) (v : Value) (w w' : World) : Prop := w.grownBy w' v.ownBlock ∧ (w.ownsRow B e k v n xs → w'.ownsRow B e k v n xs)
theorem GOwn.of_below {e k B n : Nat} {xs : List Value} {v : Value} (w w' : World) (hb : Below w.heap.size w w') : GOwn e k B n xs v w w' :=
  ⟨⟨hb.os, hb.tape, hb.output, hb.size, fun j hj _ => hb.block j hj⟩, fun h => OwnR.kept_ (w := w) h hb⟩
theorem own_back {e k B n m g cap : Nat} {xs news : List Value} {w w' : World} (h : w.ownsRow B e k (.slice (some ⟨g, 0, none⟩) n cap) n xs) (h' : w'.ownsRow B e k (.slice (some ⟨g, 0, none⟩) (n + m) cap) (n + m) (xs ++ news)) : w'.ownsRow B e k (.slice (some ⟨g, 0, none⟩) n cap) n xs := by
  refine ⟨h.1, ?_⟩
  rcases h'.2 with ⟨hv, _⟩ | ⟨g', cap', cur, hv, hb, hg, hnc, hcm, hcs, htake⟩
  · cases hv
  · simp only [Value.slice.injEq, Option.some.injEq, Addr.mk.injEq, and_true, true_and] at hv
    obtain ⟨rfl, rfl⟩ := hv
    refine .inr ⟨g, cap, cur, rfl, hb, hg, by omega, hcm, hcs, ?_⟩
    have := congrArg (List.take (n * k)) htake
    rwa [List.take_take, Nat.min_eq_left (Nat.mul_le_mul_right _ (by omega)), List.take_left' h.1] at this
theorem run_append_push (w : World) (B t ty e : Nat) (i : TypeInfo) (z : Value) (size : Nat) (ht : P.underlying t = some (.slice e)) (hi : P.info? e = some i) (hz : i.zero = some z) (hsize : i.size = size) (hby : i.bytes ≤ 1000) (hzs : z.cells.size = size) (hsz : 0 < size)
    (v : Value) (n : Nat) (xs : List Value) (hv : w.ownsRow B e size v n xs) (g' c : Nat) (C : Array Value) (hr : Blk w g' e C) (hC : C.size = size) (h1 : ∀ u ∈ C.toList, u.oneCell' = true) (hn : n ≤ 1048576) (hB : B ≤ w.heap.size) :
    ∃ v' w', (Builtin.append_ #[t, t] ty #[v, .slice (some ⟨g', 0, none⟩) 1 c]).run P w = .ok v' w' ∧ w'.ownsRow B e size v' (n + 1) (xs ++ C.toList) ∧ GOwn e size B n xs v w w' := by
  have hb2 : (n + 1) * i.bytes ≤ 140737488355328 := by
    have : (n + 1) * i.bytes ≤ 1048577 * 1000 := Nat.mul_le_mul (by omega) hby
    omega
  have hl : C.toList.length = 1 * size := by simp [hC]
  have hc : ∀ j u, C.toList[j]? = some u → w.cell? ((⟨g', 0, none⟩ : Addr).add j) = some u := fun j u hu => by
    rw [Addr.add_lit, Nat.zero_add]
    exact hr.cell_ (by simpa using hu)
  obtain ⟨v', w', hrun, hown, hgr, _⟩ := run_append_own (P := P) w B t ty e i z size i.bytes ht hi hz hsize rfl hzs hsz v n xs hv ⟨g', 0, none⟩ 1 c C.toList hl hc h1 (by unfold maxLen; omega) hb2 hB
  refine ⟨v', w', hrun, hown, hgr, fun _ => ?_⟩
  rcases hv.2 with ⟨rfl, rfl⟩ | ⟨g, cap, cur, rfl, hbg, hg, hnc, hcm, hcs, htake⟩
  · have : xs = [] := List.eq_nil_of_length_eq_zero (by simpa using hv.1)
    subst this
    exact World.ownsRow_nil ..
  · by_cases hroom : n + 1 ≤ cap
    · obtain ⟨w2, hrun2, hown2, _⟩ := run_append_fits (P := P) w B t ty e i size ht hi hsize g n cap xs hv ⟨g', 0, none⟩ 1 c C.toList hl hc h1 hroom
      rw [hrun] at hrun2
      injection hrun2 with e1 e2
      subst e1 e2
      exact own_back hv hown2
    · have hrun2 := run_append_grow (P := P) w t ty e i z ht hi hz ⟨g, 0, none⟩ n cap xs (by rw [hsize]; exact hv.1) (hv.cells (g := g) rfl) ⟨g', 0, none⟩ 1 c C.toList (by rw [hsize]; exact hl) hc (by omega) (by omega) (growslice_fits (by omega) hb2)
      rw [hrun] at hrun2
      injection hrun2 with _ e2
      rw [e2]
      exact OwnR.kept_ hv (((Below.refl _ _).drew).alloc (Nat.le_refl _) _)
theorem relAtR_push {o : Oper} {a : Act} {w : World} {s x : Operand} {t e : Nat} (ho : o.op = .call { callee := .builtin .append, args := #[s, x], argTypes := #[t, t] }) (B : Nat) (i : TypeInfo) (z : Value) (size : Nat) (ht : P.underlying t = some (.slice e)) (hi : P.info? e = some i) (hz : i.zero = some z) (hsize : i.size = size) (hby : i.bytes ≤ 1000) (hzs : z.cells.size = size) (hsz : 0 < size)
    (v : Value) (n : Nat) (xs : List Value) (hs : a.eval s = v) (hv : w.ownsRow B e size v n xs) (g' c : Nat) (C : Array Value) (hx : a.eval x = .slice (some ⟨g', 0, none⟩) 1 c) (hr : Blk w g' e C) (hC : C.size = size) (h1 : ∀ u ∈ C.toList, u.oneCell' = true) (hn : n ≤ 1048576) (hB : B ≤ w.heap.size)
    {p : Value → World → Prop} (hp : ∀ v' w', w'.ownsRow B e size v' (n + 1) (xs ++ C.toList) → GOwn e size B n xs v w w' → p v' w') : relAtR (GOwn e size B n xs v) P o a w p := by
  obtain ⟨v', w', hrun, hown, hg⟩ := run_append_push w B t o.type e i z size ht hi hz hsize hby hzs hsz v n xs hv g' c C hr hC h1 hn hB
  unfold relAtR
  simp [execOp, ho, resolve, invoke, builtin, hs, hx, hrun, Result.andThen]
  exact ⟨hg, hp _ _ hown hg⟩
end
theorem fill_fold (L : List Value) : ∀ (k : Nat) (Z : Array Value), ((L.zipIdx k).foldl (fun cs (p : Value × Nat) => cs.setIfInBounds (0 + p.2) p.1) Z).size = Z.size ∧ ∀ i, ((L.zipIdx k).foldl (fun cs (p : Value × Nat) => cs.setIfInBounds (0 + p.2) p.1) Z)[i]? = if k ≤ i ∧ i < k + L.length ∧ i < Z.size then L[i - k]? else Z[i]? := by
  induction L with
  | nil => intro k Z; refine ⟨rfl, fun i => ?_⟩; rw [if_neg (by simp; omega)]; rfl
  | cons x L ih =>
    intro k Z
    obtain ⟨h1, h2⟩ := ih (k + 1) (Z.setIfInBounds (0 + k) x)
    simp only [List.zipIdx_cons, List.foldl_cons]
    refine ⟨by rw [h1]; simp, fun i => ?_⟩
    rw [h2]
    by_cases hi : i = k
    · subst hi
      rw [if_neg (by omega)]
      by_cases hz : i < Z.size
      · rw [if_pos ⟨Nat.le_refl _, by simp, hz⟩]; simp [hz]
      · rw [if_neg (fun h => hz h.2.2)]; simp [hz]
    · by_cases hc : k + 1 ≤ i ∧ i < k + 1 + L.length ∧ i < (Z.setIfInBounds (0 + k) x).size
      · rw [if_pos hc, if_pos ⟨by omega, by simp; omega, by simpa using hc.2.2⟩]
        rw [show i - k = (i - (k + 1)) + 1 by omega, List.getElem?_cons_succ]
      · rw [if_neg hc, if_neg (fun h => hc ⟨by omega, by have := h.2.1; simp at this; omega, by simpa using h.2.2⟩), Array.getElem?_setIfInBounds_ne (by omega)]
theorem fill_all (C Z : Array Value) (h : Z.size = C.size) : C.zipIdx.foldl (fun cs (p : Value × Nat) => cs.setIfInBounds (0 + p.2) p.1) Z = C := by
  rw [← Array.foldl_toList, Array.toList_zipIdx]
  obtain ⟨h1, h2⟩ := fill_fold C.toList 0 Z
  apply Array.ext_getElem?
  intro i
  rw [h2]
  by_cases hi : i < C.size
  · rw [if_pos ⟨Nat.zero_le _, by simpa using hi, by omega⟩]; simp
  · rw [if_neg (fun hh => hi (by have := hh.2.1; simpa using this)), Array.getElem?_eq_none (by omega), Array.getElem?_eq_none (by omega)]
theorem relAt_one {P : Program} {o : Oper} {a : Act} {w : World} {x : Operand} {t e : Nat} (ho : o.op = .buildSlice t 1 #[(0, x)]) (i : TypeInfo) (z : Value) (ht : P.underlying t = some (.slice e)) (hi : P.info? e = some i) (hz : i.zero = some z) (C : Array Value) (hx : a.eval x = .agg C) (hs : i.size = C.size) (hzs : z.cells.size = C.size) (h0 : 0 < C.size) (h1 : C.size ≤ 1000) (L : Nat) (hL : L ≤ w.heap.size) : relAt P o a w (One e L C) := by
  unfold relAt
  have hfill : ∀ Z : Array Value, Z.size = C.size → Instr.fill (fun i => some (i * C.size, C.size)) Z [(0, Value.agg C)] = some C := fun Z hZ => by
    have hf := fill_all C Z hZ
    simp only [Instr.fill, Value.cells, Nat.zero_mul, Nat.zero_add]
    rw [if_neg (by simp [hZ])]
    exact congrArg some (by simpa using hf)
  replace hfill := hfill ((Array.range C.size).map (z.cells[· % z.cells.size]!)) (by simp)
  simp only [execOp, ho, hx, Instr.buildSlice, run_underlying ht, sizeOf, typeInfo, zeroValue, hi, hz, hs, newRow, Nat.one_mul, Sem.run_bind, Sem.run_pure, Result.andThen_ok]
  simp [hx, hfill, run_underlying ht, sizeOf, typeInfo, zeroValue, hi, hz, hs, newRow, show ¬ (16777216 < C.size) by omega, show C.size ≠ 0 by omega]
  exact ⟨(Below.refl _ _).alloc (Nat.le_refl _) _, _, rfl, Blk.new' _ _ _ rfl, hL⟩
end Go.Proofs.YtmcgbjjcpcgcfaaGreatDoor
