/-
  A region that draws its order, one of whose operations is a call that panics: the operations ahead of it only read or make memory.
-/
import Derived.Test.YtbdmieelokmhiaaGreatDoorRel
set_option linter.unusedVariables false
namespace Go.Proofs.YtbdmieelokmhiaaGreatDoor
open Go.RowKit

section
variable {P : Program} {ops : Array Oper} {C : World → Prop} {specs : List (Spec × List Nat)}

def PanicQ (a0 : Act) (Q : Exit → Act → World → Prop) (ch : List PanicEntry) (w : World) : Prop := ∀ b : Act, ({ b with tmps := a0.tmps } : Act) = a0 → Q (.panic ch) b w
theorem PanicQ.of {a0 : Act} {Q : Exit → Act → World → Prop} {ch : List PanicEntry} {w : World} (h : ∀ b : Act, b.defers = a0.defers → Q (.panic ch) b w) : PanicQ a0 Q ch w := fun b hb => h b (show b.defers = a0.defers by rw [← hb])
/-- the operation is a call that panics -/
def failAt (P : Program) (o : Oper) (a0 a : Act) (Q : Exit → Act → World → Prop) (w : World) : Prop :=
  match (execOp a.eval o).run P w with
  | .ok (.enter f args) w' => Calls P f args w' fun e w'' => ∃ ch, e = .panicked ch ∧ PanicQ a0 Q ch w''
  | _ => False
def failOp (P : Program) (ops : Array Oper) (j : Nat) (a0 a : Act) (Q : Exit → Act → World → Prop) (w : World) : Prop :=
  match ops[j]? with
  | some o => o.guard = none ∧ failAt P o a0 a Q w
  | none => False

theorem rel_fail {n j : Nat} {ds : List (List Nat)} {Q : Exit → Act → World → Prop} {a0 : Act} (hR : RelOk ops n ds) (hj : j < n) (hblk : ∀ i, j < i → i < n → Region.waitsFor .any ops i j = true) (hlen : specs.length = j)
    (hds : ∀ (i : Nat) s dl, specs[i]? = some (s, dl) → ds[i]? = some dl) (hall : ∀ (i : Nat) s dl, specs[i]? = some (s, dl) → ∃ v, s = .ex v) (hC : ∀ w w', C w → Below w.heap.size w w' → C w')
    (hstep : ∀ us, Exact specs us → (∀ (i : Nat) o, i < j → ops[i]? = some o → ∃ s dl, specs[i]? = some (s, dl) ∧ ∀ w, C w → (∀ k ∈ dl, FactAt specs us k w) → relOp P ops o (lexF ops us a0 i) w (s.want w)) ∧ (∀ w, C w → failOp P ops j a0 (lexF ops us a0 j) Q w)) :
    ∀ (f : Nat) (listed : Array Bool) (a : Act) (w : World) (us : Nat → Value), rlCnt listed n = f → HeadInv .any ops n listed → listed.getD j true = false → C w → Exact specs us → FrIs ops n us (fun j => listed.getD j true) a0 a → wpAny P .any ops Q (f + (ops.size - n)) listed a w := by
  intro f
  induction f with
  | zero =>
    intro listed a w us hc inv hlj hw hE hfr
    have := rlCnt_zero n hc j hj
    rw [hlj] at this
    cases this
  | succ f ih =>
    intro listed a w us hc inv hlj hw hE hfr
    rw [show f + 1 + (ops.size - n) = (f + (ops.size - n)) + 1 by omega]
    obtain ⟨k, hk, hku, hkl⟩ := rlCnt_least n (show rlCnt listed n ≠ 0 by omega)
    have hkr : k ∈ Region.ready .any ops listed := by
      obtain ⟨o, ho⟩ : ∃ o, ops[k]? = some o := ⟨_, Array.getElem?_eq_getElem (by have := hR.le; omega)⟩
      refine mem_ready.2 ⟨hku, o, ho, fun e he hb => ?_⟩
      have h1 := hR.before k o hk ho e he hb
      rw [getD_of_in (by rw [inv.size]; have := hR.le; omega) false true]
      exact hkl _ h1
    refine ⟨fun h0 => (by rw [h0] at hkr; cases hkr), fun i hi => ?_⟩
    obtain ⟨hiu, o, ho, hal⟩ := mem_ready.1 hi
    have hin : i < n := by
      rcases Nat.lt_or_ge i n with h | h
      · exact h
      · rcases hR.tail with ht | ⟨hs, hch⟩
        · have := (Array.getElem?_eq_some_iff.1 ho).1; omega
        · by_cases hns : n < ops.size
          · exact absurd hi (tail_waits hs hch hns inv _ k rfl hk hku i h)
          · have := (Array.getElem?_eq_some_iff.1 ho).1; omega
    have hlook : ∀ t ∈ o.looksAt ops, (lexF ops us a0 i).tmps[t]? = a.tmps[t]? := by
      intro t ht
      have hfl := lexF_is hR.apart hR.le us a0 i (by omega)
      by_cases hx : ∃ (m : Nat) (oj : Oper), m < n ∧ ops[m]? = some oj ∧ oj.dst = some t
      · obtain ⟨m, oj, hm, hoj, hd⟩ := hx
        obtain ⟨h1, h2⟩ := hR.looks i m o oj t hin hm ho hoj hd ht
        have h3 := waits_listed ho hal h2
        have h4 : listed.getD m true = true := by rw [getD_of_in (by rw [inv.size]; have := hR.le; omega) true false]; exact h3
        by_cases hts : t < a0.tmps.size
        · rw [hfl.done m oj t hm hoj hd (by simpa using h1) hts, hfr.done m oj t hm hoj hd h4 hts]
        · rw [show (lexF ops us a0 i).tmps[t]? = none from Array.getElem?_eq_none (by rw [hfl.size]; exact Nat.le_of_not_lt hts), show a.tmps[t]? = none from Array.getElem?_eq_none (by rw [hfr.size]; exact Nat.le_of_not_lt hts)]
      · rw [hfl.out t fun m oj hm hoj _ hd => hx ⟨m, oj, hm, hoj, hd⟩, hfr.out t fun m oj hm hoj _ hd => hx ⟨m, oj, hm, hoj, hd⟩]
    rcases (by omega : i < j ∨ i = j ∨ j < i) with hij | rfl | hij
    · obtain ⟨s, dl, hs, hst⟩ := (hstep us hE).1 i o hij ho
      obtain ⟨v, rfl⟩ := hall i s dl hs
      have hfd : ∀ k ∈ dl, FactAt specs us k w := fun k hk' s' dl' hs' => by
        obtain ⟨v', rfl⟩ := hall k s' dl' hs'
        exact hE k v' dl' hs'
      have hop' := relOp_congr (fun cs b => hR.sel i o cs b ho) hlook (hst w hw hfd)
      refine wpOp_of_rel ho hop' fun u w' hb hp => ?_
      have hE' : Exact specs (rlUpd us i u) := fun m v' dl' hm => by
        by_cases hmi : m = i
        · subst hmi
          rw [hs] at hm
          cases hm
          rw [rlUpd_same]
          exact hp
        · rw [rlUpd_ne hmi]; exact hE m v' dl' hm
      refine ih (listed.setIfInBounds i true) (a.put o.dst u) w' (rlUpd us i u) (by have := rlCnt_set hiu n hin; omega) (inv.set hi hin) (by rw [getD_set_ne true (by omega)]; exact hlj) (hC w w' hw hb) hE' (hfr.put hR.apart hin ho u fun m hm => ?_)
      by_cases hmi : m = i
      · subst hmi; rw [getD_set_self]; simp
      · rw [getD_set_ne true (fun h => hmi h.symm), beq_eq_false_iff_ne.2 hmi, Bool.or_false]
    · have hf := (hstep us hE).2 w hw
      unfold failOp at hf
      simp only [ho] at hf
      obtain ⟨hg, hf⟩ := hf
      have he : execOp (lexF ops us a0 i).eval o = execOp a.eval o := execOp_congr o (fun cs b => hR.sel i o cs b ho) fun x hx => by
        cases x with
        | tmp t =>
          have := hlook t (List.mem_append_left _ (List.mem_filterMap.2 ⟨.tmp t, by simpa using hx, rfl⟩))
          simp only [Act.eval, Array.getD_eq_getD_getElem?, this]
        | _ => rfl
      unfold failAt at hf
      rw [he] at hf
      unfold wpOp
      simp only [ho]
      have hwant : Region.wanted o (yielded ops a.tmps) = true := by unfold Region.wanted; rw [hg]
      rw [if_pos hwant]
      refine .inl ?_
      unfold Oper.wp
      generalize (execOp a.eval o).run P w = r at *
      cases r with
      | ok x w' =>
        cases x <;> first | exact hf.elim | skip
        simp only [Oper.upon]
        exact hf.mono fun e w'' ⟨ch, hch, hq⟩ => by subst hch; exact hq a hfr.rest
      | halt x w' => exact hf.elim
    · have h3 := waits_listed ho hal (hblk i hij hin)
      rw [getD_of_in (by rw [inv.size]; have := hR.le; omega) false true, hlj] at h3
      cases h3

def exFs : List Value → List Spec
  | [] => []
  | v :: l => .ex v :: exFs l
theorem exFs_len : ∀ l : List Value, (exFs l).length = l.length
  | [] => rfl
  | v :: l => by simp [exFs, exFs_len l]
theorem exFs_ex : ∀ (l : List Value) (i : Nat) (s : Spec), (exFs l)[i]? = some s → ∃ v, s = .ex v
  | [], i, s, h => by simp [exFs] at h
  | v :: l, 0, s, h => ⟨v, by simpa [exFs] using h.symm⟩
  | v :: l, i + 1, s, h => exFs_ex l i s (by simpa [exFs] using h)
def ExVals : Nat → (List Value → Prop) → Prop
  | 0, K => K []
  | k + 1, K => ∃ v, ExVals k fun vs => K (v :: vs)
theorem exVals_of : ∀ (k : Nat) (K : List Value → Prop), ExVals k K → ∃ vs : List Value, vs.length = k ∧ K vs
  | 0, K, h => ⟨[], rfl, h⟩
  | k + 1, K, ⟨v, h⟩ => by
    obtain ⟨vs, h1, h2⟩ := exVals_of k _ h
    exact ⟨v :: vs, by simp [h1], h2⟩
/-- A region that draws its order: its operation j is a call that panics; those ahead of it read, call or make memory; those behind it wait for it. -/
theorem wp_region_fail {id : Nat} {Q : Exit → Act → World → Prop} {a : Act} {w : World} {l : List Oper} (n j : Nat) (ds : List (List Nat)) (C : World → Prop) (hm : P.follows .mixedOrders = true) (hB : relB l.toArray n ds = true) (hj : j < n) (hdl : ds.length = j)
    (hblk : ((List.range n).all fun i => decide (i ≤ j) || Region.waitsFor .any l.toArray i j) = true)
    (hC0 : C w.drew) (hC : ∀ w w', C w → Below w.heap.size w w' → C w')
    (h : ExVals j fun vs => relWalk P l.toArray C (fun a' w' => failOp P l.toArray j a a' Q w') (l.take j) ((exFs vs).zip ds) 0 [] [] a) : (Code.region id l.toArray true).wp P Q a w := by
  obtain ⟨vs, hvl, h⟩ := exVals_of _ _ h
  have hR := relOk_of hB
  have hnl : n ≤ l.length := by simpa using hR.le
  refine wp_region_any hm ?_
  have hzip : ∀ (i : Nat) s dl, ((exFs vs).zip ds)[i]? = some (s, dl) → ∃ v, s = .ex v := fun i s dl hi => by
    rw [List.getElem?_zip_eq_some] at hi
    exact exFs_ex vs i s hi.1
  have key := rel_fail (P := P) (C := C) (specs := (exFs vs).zip ds) (Q := Q) (a0 := a) (j := j) hR hj
    (fun i h1 h2 => by
      have := List.all_eq_true.1 hblk i (List.mem_range.2 h2)
      simp only [Bool.or_eq_true, decide_eq_true_eq] at this
      exact this.resolve_left (by omega)) (by simp [hdl, exFs_len, hvl]) (fun i s dl hi => by rw [List.getElem?_zip_eq_some] at hi; exact hi.2) hzip hC
    (fun us hE => by
      have := walk_steps (P := P) (ops := l.toArray) (C := C) hE (l.take j) ((exFs vs).zip ds) 0 [] [] h (by simp) (fun k hk => by simp only [List.length_take] at hk; simp [List.getElem?_take]; omega) (fun j x hx => by cases hx) ⟨fun u hu => (by cases hu), fun _ => List.Pairwise.nil⟩
      simp only [Nat.zero_add, List.length_take, Nat.min_eq_left (show j ≤ l.length by omega)] at this
      refine ⟨fun i o hi ho => this.1 i o (Nat.zero_le _) hi ho, fun w hw => this.2 w hw (fun k s dl hk => ?_) fun i k hik hi hk => ?_⟩
      · obtain ⟨v, rfl⟩ := hzip k s dl hk
        exact hE k v dl hk
      · obtain ⟨p, dl, hp⟩ := hi
        obtain ⟨v, hv⟩ := hzip i _ dl hp
        cases hv)
  have hc0 : ∀ m, m ≤ l.toArray.size → rlCnt (Array.replicate l.toArray.size false) m = m := by
    intro m
    induction m with
    | zero => intro _; rfl
    | succ m ih =>
      intro hm'
      simp only [rlCnt, ih (by omega)]
      rw [show (Array.replicate l.toArray.size false).getD m true = false from getD_in (by simp at hm' ⊢; omega) (getD_replicate_false _ _)]
      simp
  have hsz : n + (l.toArray.size - n) = l.toArray.size := by have := hR.le; omega
  have hrf : ∀ i, i < n → (Array.replicate l.toArray.size false).getD i true = false := fun i hi => getD_in (by simp at hnl ⊢; omega) (getD_replicate_false _ _)
  have h2 := key n (Array.replicate l.toArray.size false) a { w with drawn := w.drawn + 1 } (fun j => match ((exFs vs).zip ds)[j]? with
    | some (.ex v, _) => v
    | _ => undef) (hc0 n hR.le) ⟨by simp, fun j oj _ hl => (by rw [getD_replicate_false] at hl; cases hl), fun t _ ht => getD_in (by simpa using ht) (getD_replicate_false _ _)⟩ (hrf j hj) hC0
    (fun j v dl hj => by simp only [hj])
    ⟨rfl, rfl, fun j o d hj ho hd hl => (by rw [hrf j hj] at hl; cases hl), fun t ht => rfl⟩
  rw [hsz] at h2
  exact h2
theorem exVal_next {k : Nat} {K : List Value → Prop} {v : Value} (h : ExVals k fun vs => K (v :: vs)) : ExVals (k + 1) K := ⟨v, h⟩
theorem relWalk_endf {ds : List (List Nat)} {k : Nat} {a : Act} {fin : Act → World → Prop} (h : ∀ w, C w → fin a w) : relWalk P ops C fin [] ((exFs []).zip ds) k [] [] a := fun w hw _ _ => h w hw
theorem exVal_end {K : List Value → Prop} (h : K []) : ExVals 0 K := h
theorem failOp_at {j : Nat} {a0 a : Act} {Q : Exit → Act → World → Prop} {w : World} {o : Oper} (ho : ops[j]? = some o) (hg : o.guard = none) (h : failAt P o a0 a Q w) : failOp P ops j a0 a Q w := by
  unfold failOp
  simp only [ho]
  exact ⟨hg, h⟩
attribute [go_sem] failAt
end
end Go.Proofs.YtbdmieelokmhiaaGreatDoor
