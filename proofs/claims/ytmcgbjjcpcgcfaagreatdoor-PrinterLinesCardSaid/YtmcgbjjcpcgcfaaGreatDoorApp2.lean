/-
  Drawn regions with several appends onto rows that the region itself makes.
-/
import Derived.Test.YtmcgbjjcpcgcfaaGreatDoorApp
set_option linter.unusedVariables false
set_option linter.unusedSimpArgs false
namespace Go.Proofs.YtmcgbjjcpcgcfaaGreatDoor
open Go.RowKit

/-- blocks below B and blocks of other types stand; rows of this type of at most n elements stand -/
structure GT (B e size n : Nat) (w w' : World) : Prop where
  os : w'.os = w.os
  tape : w'.tape = w.tape
  output : w'.output = w.output
  sz : w.heap.size ≤ w'.heap.size
  low : ∀ k, k < B → w'.heap[k]? = w.heap[k]?
  typ : ∀ (k : Nat) (cs : Array Value) (t : TypeId) (f : Nat × Nat), w.heap[k]? = some (Obj.cells cs t f) → t ≠ e → w'.heap[k]? = some (Obj.cells cs t f)
  row : ∀ (B' : Nat) (v : Value) (m : Nat) (xs : List Value), m ≤ n → w.ownsRow B' e size v m xs → w'.ownsRow B' e size v m xs
theorem GT.of_below {B e size n : Nat} {w w' : World} (hB : B ≤ w.heap.size) (h : Below w.heap.size w w') : GT B e size n w w' :=
  ⟨h.os, h.tape, h.output, h.size, fun k hk => h.block k (by omega), fun k cs t f hk _ => (h.block k (Array.getElem?_eq_some_iff.1 hk).1).trans hk, fun B' v m xs _ ho => OwnR.kept_ (w := w) ho h⟩
theorem GT.below {B e size n : Nat} {w w' : World} (h : GT B e size n w w') : Below B w w' := ⟨h.os, h.tape, h.output, h.sz, h.low⟩
theorem GT.own {B e size n e' k' B' m : Nat} {v : Value} {xs : List Value} {w w' : World} (h : GT B e size n w w') (ho : w.ownsRow B' e' k' v m xs) (hne : e' ≠ e) : w'.ownsRow B' e' k' v m xs := by
  refine ⟨ho.1, ?_⟩
  rcases ho.2 with h2 | ⟨g, cap, cur, e1, hg, hh, rest⟩
  · exact .inl h2
  · exact .inr ⟨g, cap, cur, e1, hg, h.typ _ _ _ _ hh hne, rest⟩
theorem GT.blk {B e size n g T : Nat} {C : Array Value} {w w' : World} (h : GT B e size n w w') (hb : Blk w g T C) (hne : T ≠ e) : Blk w' g T C := h.typ _ _ _ _ hb hne
section
variable {P : Program}
theorem run_append_more (w : World) (B t ty e : Nat) (i : TypeInfo) (z : Value) (size : Nat) (ht : P.underlying t = some (.slice e)) (hi : P.info? e = some i) (hz : i.zero = some z) (hsize : i.size = size) (hby : i.bytes ≤ 1000) (hzs : z.cells.size = size) (hsz : 0 < size)
    (v : Value) (n : Nat) (xs : List Value) (hv : w.ownsRow B e size v n xs) (n₀ : Nat) (p : Option Addr) (m c : Nat) (news : List Value) (hr : Reads w n₀ size p m news) (h1 : ∀ u ∈ news, u.oneCell' = true) (hn : n ≤ 1048576) (hm : m ≤ 1048576) (hB : B ≤ w.heap.size) :
    ∃ v' w', (Builtin.append_ #[t, t] ty #[v, .slice p m c]).run P w = .ok v' w' ∧ w'.ownsRow B e size v' (n + m) (xs ++ news) ∧ GT B e size n w w' := by
  cases p with
  | none =>
    have hm0 : m = 0 := by
      rcases Nat.eq_zero_or_pos m with h | h
      · exact h
      · obtain ⟨ad, h2, _⟩ := hr.2 h; cases h2
    subst hm0
    have hn0 : news = [] := List.eq_nil_of_length_eq_zero (by simpa using hr.1)
    subst hn0
    exact ⟨v, w, run_append_of_nil (P := P) w B t ty e i size ht hi v n xs hv c, by simpa using hv, GT.of_below hB (Below.refl _ _)⟩
  | some a =>
    have hb2 : (n + m) * i.bytes ≤ 140737488355328 := by
      have : (n + m) * i.bytes ≤ 2097152 * 1000 := Nat.mul_le_mul (by omega) hby
      omega
    have hc : ∀ j u, news[j]? = some u → w.cell? (a.add j) = some u := fun j u hu => by
      rcases Nat.eq_zero_or_pos m with h | h
      · subst h
        have : news = [] := List.eq_nil_of_length_eq_zero (by simpa using hr.1)
        rw [this] at hu; simp at hu
      · obtain ⟨ad, h2, _, h3⟩ := hr.2 h
        cases h2
        exact h3 j u hu
    obtain ⟨v', w', hrun, hown, hgr, _⟩ := run_append_own (P := P) w B t ty e i z size i.bytes ht hi hz hsize rfl hzs hsz v n xs hv a m c news hr.1 hc h1 (by unfold maxLen; omega) hb2 hB
    refine ⟨v', w', hrun, hown, ?_⟩
    rcases hv.2 with ⟨rfl, rfl⟩ | ⟨g, cap, cur, rfl, hbg, hg, hnc, hcm, hcs, htake⟩
    · exact GT.of_below hB ⟨hgr.os, hgr.tape, hgr.output, hgr.size, fun k hk => hgr.block k hk (by simp [Value.ownBlock])⟩
    · by_cases hroom : n + m ≤ cap
      · obtain ⟨w2, hrun2, hown2, _⟩ := run_append_fits (P := P) w B t ty e i size ht hi hsize g n cap xs hv a m c news hr.1 hc h1 hroom
        rw [hrun] at hrun2
        injection hrun2 with e1 e2
        subst e1 e2
        have hne : ∀ k, k ≠ g → k < w.heap.size → w'.heap[k]? = w.heap[k]? := fun k hk hl => hgr.block k hl (by simp [Value.ownBlock]; exact hk)
        refine ⟨hgr.os, hgr.tape, hgr.output, hgr.size, fun k hk => hne k (by omega) (by omega), fun k cs t' f hk ht' => ?_, fun B' v2 m2 xs2 hm2 ho => ?_⟩
        · refine (hne k (fun hx => ?_) (Array.getElem?_eq_some_iff.1 hk).1).trans hk
          subst hx
          rw [hg] at hk
          injection hk with hy
          injection hy with _ hy _
          exact ht' hy.symm
        · refine ⟨ho.1, ?_⟩
          rcases ho.2 with h2 | ⟨g2, cap2, cur2, e1, hb2', hh, hc2, hm3, hs2, ht2⟩
          · exact .inl h2
          · by_cases hgg : g2 = g
            · subst hgg
              rw [hg] at hh
              injection hh with hy
              injection hy with hy _ _
              subst hy
              rcases hown.2 with ⟨hx, _⟩ | ⟨g3, cap3, cur3, hx, _, hg3, _, _, hs3, ht3⟩
              · cases hx
              · simp only [Value.slice.injEq, Option.some.injEq, Addr.mk.injEq, and_true, true_and] at hx
                obtain ⟨rfl, rfl⟩ := hx
                refine .inr ⟨g2, cap2, cur3, e1, hb2', hg3, hc2, hm3, by rw [hs3, ← hs2, hcs], ?_⟩
                have hle : m2 * size ≤ n * size := Nat.mul_le_mul_right _ hm2
                have h5 := congrArg (List.take (m2 * size)) ht3
                rw [List.take_take, Nat.min_eq_left (Nat.mul_le_mul_right _ (by omega)), List.take_append_of_le_length (by rw [hv.1]; exact hle), ← htake, List.take_take, Nat.min_eq_left hle, ht2] at h5
                exact h5
            · exact .inr ⟨g2, cap2, cur2, e1, hb2', (hne g2 hgg (Array.getElem?_eq_some_iff.1 hh).1).trans hh, hc2, hm3, hs2, ht2⟩
      · have hrun2 := run_append_grow (P := P) w t ty e i z ht hi hz ⟨g, 0, none⟩ n cap xs (by rw [hsize]; exact hv.1) (hv.cells (g := g) rfl) a m c news (by rw [hsize]; exact hr.1) hc (by omega) (by omega) (growslice_fits (by omega) hb2)
        rw [hrun] at hrun2
        injection hrun2 with _ e2
        rw [e2]
        exact GT.of_below hB (((Below.refl _ _).drew).alloc (Nat.le_refl _) _)
theorem relAtR_more {o : Oper} {a : Act} {w : World} {s x : Operand} {t e : Nat} (ho : o.op = .call { callee := .builtin .append, args := #[s, x], argTypes := #[t, t] }) (B : Nat) (i : TypeInfo) (z : Value) (size : Nat) (ht : P.underlying t = some (.slice e)) (hi : P.info? e = some i) (hz : i.zero = some z) (hsize : i.size = size) (hby : i.bytes ≤ 1000) (hzs : z.cells.size = size) (hsz : 0 < size)
    (v : Value) (n : Nat) (xs : List Value) (hs : a.eval s = v) (hv : OwnR e size B n xs v w) (n₀ : Nat) (p : Option Addr) (m c : Nat) (news : List Value) (hx : a.eval x = .slice p m c) (hr : Reads w n₀ size p m news) (h1 : ∀ u ∈ news, u.oneCell' = true) (hn : n ≤ 1048576) (hm : m ≤ 1048576) (hB : B ≤ w.heap.size) :
    relAtR (GT B e size n) P o a w (OwnR e size B (n + m) (xs ++ news)) := by
  obtain ⟨v', w', hrun, hown, hg⟩ := run_append_more w B t o.type e i z size ht hi hz hsize hby hzs hsz v n xs hv n₀ p m c news hr h1 hn hm hB
  unfold relAtR
  simp [execOp, ho, resolve, invoke, builtin, hs, hx, hrun, Result.andThen]
  exact ⟨hg, hown⟩
end
/-- every fact stands under the other operations' relations -/
def formLastT (R : Nat → World → World → Prop) (wf : Nat → Nat → Bool) : Nat → List Form → Prop
  | _, [] => True
  | k, .val :: l => formLastT R wf (k + 1) l
  | k, .rel p :: l => (∀ i, i ≠ k → wf k i = false → ∀ u w w', R i w w' → p u w → p u w') ∧ formLastT R wf (k + 1) l
  | k, .new p :: l => (∀ i, i ≠ k → wf k i = false → ∀ u w w', R i w w' → p u w → p u w') ∧ formLastT R wf (k + 1) l
def specLastT (R : Nat → World → World → Prop) (wf : Nat → Nat → Bool) (k : Nat) (s : Spec) : Prop := ∀ i, i ≠ k → wf k i = false → ∀ u w w', R i w w' → s.ok u w → s.ok u w'
theorem exSpecs_ofT {R : Nat → World → World → Prop} {wf : Nat → Nat → Bool} : ∀ (l : List Form) (K : List Spec → Prop) (k : Nat), formLastT R wf k l → ExSpecs l K → ∃ ss, ss.length = l.length ∧ (∀ (j : Nat) s, ss[j]? = some s → specLastT R wf (k + j) s) ∧ K ss
  | [], K, _, _, h => ⟨[], rfl, fun j s h => by simp at h, h⟩
  | .val :: l, K, k, hl, ⟨v, h⟩ => by
    obtain ⟨ss, h1, h2, h3⟩ := exSpecs_ofT l _ (k + 1) hl h
    refine ⟨.ex v :: ss, by simp [h1], fun j s hj => ?_, h3⟩
    cases j with
    | zero => simp at hj; subst hj; exact fun i hi _ u w w' _ ho => ho
    | succ j => have := h2 j s (by simpa using hj); rwa [show k + 1 + j = k + (j + 1) by omega] at this
  | .rel p :: l, K, k, hl, h => by
    obtain ⟨ss, h1, h2, h3⟩ := exSpecs_ofT l _ (k + 1) hl.2 h
    refine ⟨.rel p :: ss, by simp [h1], fun j s hj => ?_, h3⟩
    cases j with
    | zero => simp at hj; subst hj; exact hl.1
    | succ j => have := h2 j s (by simpa using hj); rwa [show k + 1 + j = k + (j + 1) by omega] at this
  | .new p :: l, K, k, hl, h => by
    obtain ⟨ss, h1, h2, h3⟩ := exSpecs_ofT l _ (k + 1) hl.2 h
    refine ⟨.new p :: ss, by simp [h1], fun j s hj => ?_, h3⟩
    cases j with
    | zero => simp at hj; subst hj; exact hl.1
    | succ j => have := h2 j s (by simpa using hj); rwa [show k + 1 + j = k + (j + 1) by omega] at this
section
variable {P : Program} {ops : Array Oper} {C : World → Prop} {fin : Act → World → Prop} {R : Nat → World → World → Prop}
theorem wp_region_relsT {id : Nat} {Q : Exit → Act → World → Prop} {a : Act} {w : World} {l : List Oper} (n : Nat) (ds : List (List Nat)) (form : List Form) (C : World → Prop) (R : Nat → World → World → Prop) (hm : P.follows .mixedOrders = true) (hB : relB l.toArray n ds = true) (hn : ds.length = n) (hs : form.length = n)
    (hC0 : C w.drew) (hrf : ∀ i w, R i w w) (hsz : ∀ i w w', R i w w' → w.heap.size ≤ w'.heap.size) (hC : ∀ i w w', C w → R i w w' → C w') (hlast : formLastT R (fun k i => Region.waitsFor .any l.toArray k i) 0 form)
    (h : ExSpecs form fun ss => relWalkR P l.toArray C (fun a' w' => wpList P l.toArray Q (l.drop n) a' w') R (l.take n) (ss.zip ds) 0 [] [] a) : (Code.region id l.toArray true).wp P Q a w := by
  obtain ⟨ss, h1, h2, h3⟩ := exSpecs_ofT form _ 0 hlast h
  refine wp_region_relR n ds ss C hm hB hn (h1.trans hs) hC0 R hrf hsz (fun i j s dl hi hij hwf hj u w w' hR ho => ?_) hC h3
  have hj' := (List.getElem?_zip_eq_some.1 hj).1
  have := h2 j s hj'
  rw [Nat.zero_add] at this
  exact this i hij hwf u w w' hR ho
theorem rt_of {k : Nat} (hk : R k = BelowR) {o : Oper} {a : Act} {w : World} {p : Value → World → Prop} (h : relOp P ops o a w p) : relOpR (R k) P ops o a w p := by
  rw [hk]
  exact relOpR_of (fun _ _ h => h) h
theorem relWalkT_ex {o : Oper} {l : List Oper} {v : Value} {ss : List Spec} {d : List Nat} {ds : List (List Nat)} {k : Nat} {Γ : Facts} {U : List Value} {a : Act} (hg : o.guard = none) (hk : R k = BelowR) (h1 : ∀ w, C w → factsOf Γ d w → relAt P o a w fun u _ => u = v)
    (h2 : ∀ K : Act → Prop, (∀ a', relWalkR P ops C fin R l (ss.zip ds) (k + 1) Γ U a' → K a') → K (a.put o.dst v)) : relWalkR P ops C fin R (o :: l) ((Spec.ex v :: ss).zip (d :: ds)) k Γ U a :=
  ⟨fun w hC hF => rt_of hk (relOp_plain hg (h1 w hC hF)), h2 _ fun _ h => h⟩
theorem relWalkT_rel {o : Oper} {l : List Oper} {p : Value → World → Prop} {ss : List Spec} {d : List Nat} {ds : List (List Nat)} {k : Nat} {Γ : Facts} {U : List Value} {a : Act} (hg : o.guard = none) (hk : R k = BelowR) (h1 : ∀ w, C w → factsOf Γ d w → relAt P o a w p)
    (h2 : ∀ (u : Value) (K : Act → Prop), (∀ a', relWalkR P ops C fin R l (ss.zip ds) (k + 1) ((k, p u) :: Γ) U a' → K a') → K (a.put o.dst u)) : relWalkR P ops C fin R (o :: l) ((Spec.rel p :: ss).zip (d :: ds)) k Γ U a :=
  ⟨fun w hC hF => rt_of hk (relOp_plain hg (h1 w hC hF)), fun u => h2 u _ fun _ h => h⟩
theorem relWalkT_new {o : Oper} {l : List Oper} {p : Value → World → Prop} {ss : List Spec} {d : List Nat} {ds : List (List Nat)} {k : Nat} {Γ : Facts} {U : List Value} {a : Act} (hg : o.guard = none) (hk : R k = BelowR) (h1 : ∀ w, C w → factsOf Γ d w → relAt P o a w fun u w' => p u w' ∧ Fresh w u w')
    (h2 : ∀ (u : Value) (K : Act → Prop), (∀ a', relWalkR P ops C fin R l (ss.zip ds) (k + 1) ((k, p u) :: Γ) (u :: U) a' → K a') → K (a.put o.dst u)) : relWalkR P ops C fin R (o :: l) ((Spec.new p :: ss).zip (d :: ds)) k Γ U a :=
  ⟨fun w hC hF => rt_of hk (relOp_plain hg (h1 w hC hF)), fun u => h2 u _ fun _ h => h⟩
/-- a writer -/
theorem relWalkT_wr {G : World → World → Prop} {o : Oper} {l : List Oper} {p : Value → World → Prop} {ss : List Spec} {d : List Nat} {ds : List (List Nat)} {k : Nat} {Γ : Facts} {U : List Value} {a : Act} (hg : o.guard = none) (hk : R k = G) (h1 : ∀ w, C w → factsOf Γ d w → relAtR G P o a w p)
    (h2 : ∀ (u : Value) (K : Act → Prop), (∀ a', relWalkR P ops C fin R l (ss.zip ds) (k + 1) ((k, p u) :: Γ) U a' → K a') → K (a.put o.dst u)) : relWalkR P ops C fin R (o :: l) ((Spec.rel p :: ss).zip (d :: ds)) k Γ U a :=
  ⟨fun w hC hF => by
    rw [hk]
    unfold relOpR Region.wanted
    rw [hg]
    exact h1 w hC hF, fun u => h2 u _ fun _ h => h⟩
theorem relWalkT_end {ss : List Spec} {ds : List (List Nat)} {k : Nat} {Γ : Facts} {U : List Value} {a : Act} (h : ∀ w, C w → factsAll Γ w → U.Pairwise (fun u v => blkOf u ≠ blkOf v) → fin a w) : relWalkR P ops C fin R [] (ss.zip ds) k Γ U a := h
end
end Go.Proofs.YtmcgbjjcpcgcfaaGreatDoor
