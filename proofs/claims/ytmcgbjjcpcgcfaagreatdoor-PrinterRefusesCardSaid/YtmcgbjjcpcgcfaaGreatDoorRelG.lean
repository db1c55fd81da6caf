/-
  Rel's law (RelAll) for a drawn region one of whose operations may write an older block (an append in place): that operation is held to a relation of its own.
-/
import Derived.Test.YtmcgbjjcpcgcfaaGreatDoorRelAll
set_option linter.unusedVariables false
namespace Go.Proofs.YtmcgbjjcpcgcfaaGreatDoor
open Go.RowKit

def BelowR (w w' : World) : Prop := Below w.heap.size w w'
def relUponR (R : World → World → Prop) (P : Program) (w : World) (p : Value → World → Prop) : Result Next → Prop
  | .ok (.value u) w' => R w w' ∧ p u w'
  | .ok .skip w' => R w w' ∧ p undef w'
  | .ok (.enter f args) w' => Calls P f args w' fun e w'' => ∃ u, e = .returned u ∧ R w w'' ∧ p u w''
  | _ => False
def relAtR (R : World → World → Prop) (P : Program) (o : Oper) (a : Act) (w : World) (p : Value → World → Prop) : Prop := relUponR R P w p ((execOp a.eval o).run P w)
def relOpR (R : World → World → Prop) (P : Program) (ops : Array Oper) (o : Oper) (a : Act) (w : World) (p : Value → World → Prop) : Prop :=
  if Region.wanted o (yielded ops a.tmps) then relAtR R P o a w p else p undef w
theorem relOpR_of {R : World → World → Prop} (hR : ∀ w w', Below w.heap.size w w' → R w w') {P : Program} {ops : Array Oper} {o : Oper} {a : Act} {w : World} {p : Value → World → Prop} (h : relOp P ops o a w p) : relOpR R P ops o a w p := by
  unfold relOp at h
  unfold relOpR
  split
  · rename_i hw
    rw [if_pos hw] at h
    unfold relAt at h
    unfold relAtR
    generalize (execOp a.eval o).run P w = r at *
    cases r with
    | ok n w' =>
      cases n <;> simp only [relUpon] at h <;> simp only [relUponR]
      case value u => exact ⟨hR _ _ h.1, h.2⟩
      case skip => exact ⟨hR _ _ h.1, h.2⟩
      case enter f args => exact h.mono fun e w'' ⟨u, he, hb, hp⟩ => ⟨u, he, hR _ _ hb, hp⟩
    | halt x w' => simp only [relUpon] at h
  · rename_i hw
    rwa [if_neg hw] at h
theorem wpOp_of_relR {R : World → World → Prop} (hr : ∀ w, R w w) {P : Program} {ops : Array Oper} {i : Nat} {o : Oper} {a : Act} {w : World} {p : Value → World → Prop} {K : Act → World → Prop} {Q : Exit → Act → World → Prop} (hi : ops[i]? = some o) (h : relOpR R P ops o a w p)
    (hK : ∀ u w', R w w' → p u w' → K (a.put o.dst u) w') : wpOp P ops Q i K a w := by
  unfold wpOp
  simp only [hi]
  unfold relOpR at h
  split
  · rename_i hw
    rw [if_pos hw] at h
    refine .inl ?_
    unfold Oper.wp
    unfold relAtR at h
    generalize (execOp a.eval o).run P w = r at *
    cases r with
    | ok n w' =>
      cases n <;> simp only [relUponR] at h <;> simp only [Oper.upon]
      case value u => exact hK _ _ h.1 h.2
      case skip => exact hK _ _ h.1 h.2
      case enter f args => exact h.mono fun e w'' ⟨u, he, hb, hp⟩ => by subst he; exact hK _ _ hb hp
    | halt x w' => simp only [relUponR] at h
  · rename_i hw
    rw [if_neg hw] at h
    exact hK _ _ (hr _) h


/-- the walk in the order of the text; the operation with number k is held to R k -/
def relWalkR (P : Program) (ops : Array Oper) (C : World → Prop) (fin : Act → World → Prop) (R : Nat → World → World → Prop) : List Oper → List (Spec × List Nat) → Nat → Facts → List Value → Act → Prop
  | [], _, _, Γ, U, a => ∀ w, C w → factsAll Γ w → U.Pairwise (fun u v => blkOf u ≠ blkOf v) → fin a w
  | _ :: _, [], _, _, _, _ => False
  | o :: l, (.ex v, ds) :: ss, k, Γ, U, a => (∀ w, C w → factsOf Γ ds w → relOpR (R k) P ops o a w fun u _ => u = v) ∧ relWalkR P ops C fin R l ss (k + 1) Γ U (a.put o.dst v)
  | o :: l, (.rel p, ds) :: ss, k, Γ, U, a => (∀ w, C w → factsOf Γ ds w → relOpR (R k) P ops o a w p) ∧ ∀ u, relWalkR P ops C fin R l ss (k + 1) ((k, p u) :: Γ) U (a.put o.dst u)
  | o :: l, (.new p, ds) :: ss, k, Γ, U, a => (∀ w, C w → factsOf Γ ds w → relOpR (R k) P ops o a w fun u w' => p u w' ∧ Fresh w u w') ∧ ∀ u, relWalkR P ops C fin R l ss (k + 1) ((k, p u) :: Γ) (u :: U) (a.put o.dst u)

section
variable {P : Program} {ops : Array Oper} {C : World → Prop} {fin : Act → World → Prop} {specs : List (Spec × List Nat)} {R : Nat → World → World → Prop}
theorem walk_stepsR {us : Nat → Value} {a : Act} (hE : Exact specs us) : ∀ (l : List Oper) (ss : List (Spec × List Nat)) (k : Nat) (Γ : Facts) (U : List Value), relWalkR P ops C fin R l ss k Γ U (lexF ops us a k) → ss = specs.drop k → (∀ j, j < l.length → l[j]? = ops[k + j]?) → GOk specs us Γ → UOk specs us k U →
    (∀ i o, k ≤ i → i < k + l.length → ops[i]? = some o → ∃ s ds, specs[i]? = some (s, ds) ∧ ∀ w, C w → (∀ j ∈ ds, FactAt specs us j w) → relOpR (R i) P ops o (lexF ops us a i) w (s.want w)) ∧ (∀ w, C w → (∀ j, FactAt specs us j w) → News specs us → fin (lexF ops us a (k + l.length)) w)
  | [], ss, k, Γ, U, h, _, _, hG, hU => ⟨fun i o h1 h2 => absurd h2 (by simp only [List.length_nil]; omega), fun w hw hf hn => h w hw (factsAll_of hf hG) (hU.2 hn)⟩
  | o :: l, [], k, Γ, U, h, _, _, _, _ => h.elim
  | o :: l, (s, ds) :: ss, k, Γ, U, h, hss, hl, hG, hU => by
    have h0 : ops[k]? = some o := by simpa using (hl 0 (by simp)).symm
    have hs0 : specs[k]? = some (s, ds) := by have := congrArg (fun x => x[0]?) hss; simpa using this.symm
    have hss' : ss = specs.drop (k + 1) := by have := congrArg List.tail hss; simpa using this
    have hl' : ∀ j, j < l.length → l[j]? = ops[k + 1 + j]? := fun j hj => by have := hl (j + 1) (by simp; omega); simpa [Nat.add_assoc, Nat.add_comm 1 j] using this
    have hx : lexF ops us a (k + 1) = (lexF ops us a k).put o.dst (us k) := by simp only [lexF, h0]
    have hU1 : UOk specs us (k + 1) U := ⟨fun u hu => by obtain ⟨j, h1, h2⟩ := hU.1 u hu; exact ⟨j, by omega, h2⟩, hU.2⟩
    have key : (∀ w, C w → factsOf Γ ds w → relOpR (R k) P ops o (lexF ops us a k) w (s.want w)) ∧ ∃ Γ' U', GOk specs us Γ' ∧ UOk specs us (k + 1) U' ∧ relWalkR P ops C fin R l ss (k + 1) Γ' U' (lexF ops us a (k + 1)) := by
      cases s with
      | ex v =>
        have hv := hE k v ds hs0
        refine ⟨h.1, Γ, U, hG, hU1, ?_⟩
        rw [hx, hv]
        exact h.2
      | rel p =>
        refine ⟨h.1, (k, p (us k)) :: Γ, U, fun j x hx w hw => ?_, hU1, ?_⟩
        · rcases List.mem_cons.1 hx with hx | hx
          · cases hx; exact hw _ _ hs0
          · exact hG j x hx w hw
        · rw [hx]; exact h.2 _
      | new p =>
        refine ⟨h.1, (k, p (us k)) :: Γ, us k :: U, fun j x hx w hw => ?_, ⟨fun u hu => ?_, fun hn => List.pairwise_cons.2 ⟨fun u hu => ?_, hU.2 hn⟩⟩, ?_⟩
        · rcases List.mem_cons.1 hx with hx | hx
          · cases hx; exact hw _ _ hs0
          · exact hG j x hx w hw
        · rcases List.mem_cons.1 hu with hu | hu
          · exact ⟨k, by omega, ⟨p, ds, hs0⟩, hu⟩
          · exact hU1.1 u hu
        · obtain ⟨j, h1, h2, h3⟩ := hU.1 u hu
          rw [h3]
          exact hn k j (by omega) ⟨p, ds, hs0⟩ h2
        · rw [hx]; exact h.2 _
    obtain ⟨hstep, Γ', U', hG', hU', hrest⟩ := key
    obtain ⟨h1, h2⟩ := walk_stepsR hE l ss (k + 1) Γ' U' hrest hss' hl' hG' hU'
    refine ⟨fun i o' hk hi ho => ?_, fun w hw hf hn => by have := h2 w hw hf hn; rwa [show k + 1 + l.length = k + (o :: l).length by simp; omega] at this⟩
    by_cases hik : i = k
    · subst hik
      have : o' = o := Option.some.inj (ho.symm.trans h0)
      subst this
      exact ⟨s, ds, hs0, fun w hw hf => hstep w hw (factsOf_of hG ds hf)⟩
    · exact h1 i o' (by omega) (by simp only [List.length_cons] at hi; omega) ho

theorem relOpR_congr {Q : World → World → Prop} {o : Oper} (hsel : ∀ cs b, o.op ≠ .select cs b) {a b : Act} (h : ∀ t ∈ o.looksAt ops, a.tmps[t]? = b.tmps[t]?) {w : World} {p : Value → World → Prop} (hr : relOpR Q P ops o a w p) : relOpR Q P ops o b w p := by
  have he : execOp a.eval o = execOp b.eval o := execOp_congr o hsel fun x hx => by
    cases x with
    | tmp t =>
      have := h t (List.mem_append_left _ (List.mem_filterMap.2 ⟨.tmp t, by simpa using hx, rfl⟩))
      simp only [Act.eval, Array.getD_eq_getD_getElem?, this]
    | _ => rfl
  have hw : Region.wanted o (yielded ops a.tmps) = Region.wanted o (yielded ops b.tmps) := by
    unfold Region.wanted
    cases hg : o.guard with
    | none => rfl
    | some gw =>
      obtain ⟨g, want⟩ := gw
      have hy : yielded ops a.tmps g = yielded ops b.tmps g := by
        unfold yielded
        cases ht : (ops[g]?).bind (·.dst) with
        | none => rfl
        | some t =>
          have := h t (by simp [Oper.looksAt, hg, ht])
          simp only [Option.bind_some, this]
      simp only [hy]
  unfold relOpR relAtR at *
  rwa [← he, ← hw]
theorem rel_anyR {n : Nat} {ds : List (List Nat)} {Q : Exit → Act → World → Prop} {a0 : Act} {tl : List Oper} (hR : RelOk ops n ds) (hlen : specs.length = n) (hds : ∀ (i : Nat) s dl, specs[i]? = some (s, dl) → ds[i]? = some dl)
    (hrf : ∀ i w, R i w w) (hsz : ∀ i w w', R i w w' → w.heap.size ≤ w'.heap.size) (hlast : ∀ (i j : Nat) s dl, i < n → i ≠ j → Region.waitsFor .any ops j i = false → specs[j]? = some (s, dl) → ∀ u w w', R i w w' → s.ok u w → s.ok u w') (hC : ∀ i w w', C w → R i w w' → C w') (htl : ∀ j, tl[j]? = ops[n + j]?) (htn : tl.length = ops.size - n)
    (hstep : ∀ us, Exact specs us → (∀ (i : Nat) o, i < n → ops[i]? = some o → ∃ s dl, specs[i]? = some (s, dl) ∧ ∀ w, C w → (∀ j ∈ dl, FactAt specs us j w) → relOpR (R i) P ops o (lexF ops us a0 i) w (s.want w)) ∧ (∀ w, C w → (∀ j, FactAt specs us j w) → News specs us → wpList P ops Q tl (lexF ops us a0 n) w)) :
    ∀ (f : Nat) (listed : Array Bool) (a : Act) (w : World) (us : Nat → Value), rlCnt listed n = f → HeadInv .any ops n listed → C w → Exact specs us → (∀ j, j < n → listed.getD j true = true → FactAt specs us j w) → (∀ j, j < n → listed.getD j true = true → IsNew specs j → ∃ g, blkOf (us j) = some g ∧ g < w.heap.size) → (∀ i j, i < n → j < n → listed.getD i true = true → listed.getD j true = true → i ≠ j → IsNew specs i → IsNew specs j → blkOf (us i) ≠ blkOf (us j)) → FrIs ops n us (fun j => listed.getD j true) a0 a → wpAny P .any ops Q (f + (ops.size - n)) listed a w := by
  intro f
  induction f with
  | zero =>
    intro listed a w us hc inv hw hE hf hN hP hfr
    have hall := rlCnt_zero n hc
    have hl : listed = Array.ofFn (n := ops.size) fun i => decide (i.val < n) := by
      apply Array.ext (by simp [inv.size])
      intro t h1 h2
      simp only [Array.getElem_ofFn]
      by_cases ht : t < n
      · have := hall t ht
        rw [show listed.getD t true = listed[t] by simp [h1]] at this
        rw [this]; simp [ht]
      · have := inv.tail t (by omega) (by rw [← inv.size]; exact h1)
        rw [show listed.getD t true = listed[t] by simp [h1]] at this
        rw [this]; simp [ht]
    have ha : a = lexF ops us a0 n := hfr.same ((lexF_is hR.apart hR.le us a0 n (Nat.le_refl _)).congr (fun _ _ _ => rfl) fun j hj => by rw [hall j hj]; simp [hj])
    have hfa : ∀ j, FactAt specs us j w := fun j => by
      by_cases hj : j < n
      · exact hf j hj (hall j hj)
      · intro s dl hs
        rw [List.getElem?_eq_none (by omega)] at hs
        cases hs
    have hlt : ∀ j, IsNew specs j → j < n := fun j ⟨p, ds', hj⟩ => by
      rw [← hlen]
      exact (List.getElem?_eq_some_iff.1 hj).1
    have := (hstep us hE).2 w hw hfa fun i j hij hi hj => hP i j (hlt i hi) (hlt j hj) (hall i (hlt i hi)) (hall j (hlt j hj)) hij hi hj
    rw [← ha] at this
    rw [Nat.zero_add, ← htn]
    exact wpAny_of_seq tl n listed a w htl (by rw [htn, hl]; exact hR.seq) this
  | succ f ih =>
    intro listed a w us hc inv hw hE hf hN hP hfr
    rw [show f + 1 + (ops.size - n) = (f + (ops.size - n)) + 1 by omega]
    obtain ⟨k, hk, hku, hkl⟩ := rlCnt_least n (show rlCnt listed n ≠ 0 by omega)
    have hkr : k ∈ Region.ready .any ops listed := by
      obtain ⟨o, ho⟩ : ∃ o, ops[k]? = some o := ⟨_, Array.getElem?_eq_getElem (by have := hR.le; omega)⟩
      refine mem_ready.2 ⟨hku, o, ho, fun e he hb => ?_⟩
      have h1 := hR.before k o hk ho e he hb
      rw [getD_of_in (by rw [inv.size]; have := hR.le; omega) false true]
      exact hkl _ h1
    refine ⟨fun h0 => (by rw [h0] at hkr; cases hkr), fun i hi => ?_⟩
    obtain ⟨hiu, o, ho, hall⟩ := mem_ready.1 hi
    have hin : i < n := by
      rcases Nat.lt_or_ge i n with h | h
      · exact h
      · rcases hR.tail with ht | ⟨hs, hch⟩
        · have := (Array.getElem?_eq_some_iff.1 ho).1; omega
        · by_cases hns : n < ops.size
          · exact absurd hi (tail_waits hs hch hns inv _ k rfl hk hku i h)
          · have := (Array.getElem?_eq_some_iff.1 ho).1; omega
    obtain ⟨s, dl, hs, hst⟩ := (hstep us hE).1 i o hin ho
    have hfd : ∀ j ∈ dl, FactAt specs us j w := fun j hj => by
      have h1 := waits_listed ho hall (hR.deps i dl hin (hds i s dl hs) j hj)
      by_cases hjn : j < n
      · exact hf j hjn (by rw [getD_of_in (by rw [inv.size]; have := hR.le; omega) true false]; exact h1)
      · intro s' dl' hs'
        rw [List.getElem?_eq_none (by omega)] at hs'
        cases hs'
    have hop := hst w hw hfd
    have hfl := lexF_is hR.apart hR.le us a0 i (by omega)
    have hop' : relOpR (R i) P ops o a w (s.want w) := relOpR_congr (fun cs b => hR.sel i o cs b ho) (fun t ht => by
      by_cases hx : ∃ (j : Nat) (oj : Oper), j < n ∧ ops[j]? = some oj ∧ oj.dst = some t
      · obtain ⟨j, oj, hj, hoj, hd⟩ := hx
        obtain ⟨h1, h2⟩ := hR.looks i j o oj t hin hj ho hoj hd ht
        have h3 := waits_listed ho hall h2
        have h4 : listed.getD j true = true := by rw [getD_of_in (by rw [inv.size]; have := hR.le; omega) true false]; exact h3
        by_cases hts : t < a0.tmps.size
        · rw [hfl.done j oj t hj hoj hd (by simpa using h1) hts, hfr.done j oj t hj hoj hd h4 hts]
        · rw [show (lexF ops us a0 i).tmps[t]? = none from Array.getElem?_eq_none (by rw [hfl.size]; exact Nat.le_of_not_lt hts), show a.tmps[t]? = none from Array.getElem?_eq_none (by rw [hfr.size]; exact Nat.le_of_not_lt hts)]
      · rw [hfl.out t fun j oj hj hoj _ hd => hx ⟨j, oj, hj, hoj, hd⟩, hfr.out t fun j oj hj hoj _ hd => hx ⟨j, oj, hj, hoj, hd⟩]) hop
    refine wpOp_of_relR (hrf i) ho hop' fun u w' hb hp => ?_
    have hE' : Exact specs (rlUpd us i u) := fun j v dl' hj => by
      by_cases hji : j = i
      · subst hji
        rw [hs] at hj
        cases hj
        rw [rlUpd_same]
        exact hp
      · rw [rlUpd_ne hji]; exact hE j v dl' hj
    refine ih (listed.setIfInBounds i true) (a.put o.dst u) w' (rlUpd us i u) (by have := rlCnt_set hiu n hin; omega) (inv.set hi hin) (hC i w w' hw hb) hE' (fun j hj hl => ?_) (fun j hj hl hn => ?_) (fun j k hj hk hlj hlk hjk hnj hnk => ?_) (hfr.put hR.apart hin ho u fun j hj => ?_)
    · intro s' dl' hs'
      by_cases hji : j = i
      · subst hji
        rw [hs] at hs'
        cases hs'
        rw [rlUpd_same]
        exact Spec.want_ok hp
      · rw [rlUpd_ne hji]
        rw [getD_set_ne true (fun h => hji h.symm)] at hl
        refine hlast i j s' dl' hin (fun h => hji h.symm) ?_ hs' _ _ _ hb (hf j hj hl s' dl' hs')
        cases hwf : Region.waitsFor .any ops j i with
        | false => rfl
        | true =>
          exfalso
          obtain ⟨oj, hoj⟩ : ∃ o, ops[j]? = some o := ⟨_, Array.getElem?_eq_getElem (by have := hR.le; omega)⟩
          have h1 := waits_listed hoj (inv.closed j oj hoj (by rw [getD_of_in (by rw [inv.size]; have := hR.le; omega) false true]; exact hl)) hwf
          rw [getD_both hiu] at h1
          cases h1
    · by_cases hji : j = i
      · subst hji
        obtain ⟨p, ds', hj'⟩ := hn
        rw [hs] at hj'
        cases hj'
        obtain ⟨g, h1, h2, h3⟩ := (show p u w' ∧ Fresh w u w' from hp).2
        exact ⟨g, by rw [rlUpd_same]; exact h1, h3⟩
      · rw [rlUpd_ne hji]
        rw [getD_set_ne true (fun h => hji h.symm)] at hl
        obtain ⟨g, h1, h2⟩ := hN j hj hl hn
        exact ⟨g, h1, Nat.lt_of_lt_of_le h2 (hsz _ _ _ hb)⟩
    · have hold : ∀ m, m < n → (listed.setIfInBounds i true).getD m true = true → m ≠ i → IsNew specs m → ∃ g, blkOf (us m) = some g ∧ g < w.heap.size := fun m hm hl hmi hn => by
        rw [getD_set_ne true (fun h => hmi h.symm)] at hl
        exact hN m hm hl hn
      have hnew : IsNew specs i → ∃ g, blkOf u = some g ∧ w.heap.size ≤ g := fun ⟨p, ds', hj'⟩ => by
        rw [hs] at hj'
        cases hj'
        obtain ⟨g, h1, h2, h3⟩ := (show p u w' ∧ Fresh w u w' from hp).2
        exact ⟨g, h1, h2⟩
      by_cases hji : j = i
      · subst hji
        have hki : k ≠ j := fun h => hjk h.symm
        rw [rlUpd_same, rlUpd_ne hki]
        obtain ⟨g, h1, h2⟩ := hnew hnj
        obtain ⟨g', h3, h4⟩ := hold k hk hlk hki hnk
        rw [h1, h3]
        intro h; cases h; omega
      · by_cases hki : k = i
        · subst hki
          rw [rlUpd_same, rlUpd_ne hji]
          obtain ⟨g, h1, h2⟩ := hnew hnk
          obtain ⟨g', h3, h4⟩ := hold j hj hlj hji hnj
          rw [h1, h3]
          intro h; cases h; omega
        · rw [rlUpd_ne hji, rlUpd_ne hki]
          rw [getD_set_ne true (fun h => hji h.symm)] at hlj
          rw [getD_set_ne true (fun h => hki h.symm)] at hlk
          exact hP j k hj hk hlj hlk hjk hnj hnk
    · by_cases hji : j = i
      · subst hji; rw [getD_set_self]; simp
      · rw [getD_set_ne true (fun h => hji h.symm), beq_eq_false_iff_ne.2 hji, Bool.or_false]

theorem wp_region_relR {id : Nat} {Q : Exit → Act → World → Prop} {a : Act} {w : World} {l : List Oper} (n : Nat) (ds : List (List Nat)) (ss : List Spec) (C : World → Prop) (hm : P.follows .mixedOrders = true) (hB : relB l.toArray n ds = true) (hn : ds.length = n) (hs : ss.length = n)
    (hC0 : C w.drew) (R : Nat → World → World → Prop) (hrf : ∀ i w, R i w w) (hsz : ∀ i w w', R i w w' → w.heap.size ≤ w'.heap.size) (hlast : ∀ (i j : Nat) s dl, i < n → i ≠ j → Region.waitsFor .any l.toArray j i = false → (ss.zip ds)[j]? = some (s, dl) → ∀ u w w', R i w w' → s.ok u w → s.ok u w') (hC : ∀ i w w', C w → R i w w' → C w')
    (h : relWalkR P l.toArray C (fun a' w' => wpList P l.toArray Q (l.drop n) a' w') R (l.take n) (ss.zip ds) 0 [] [] a) : (Code.region id l.toArray true).wp P Q a w := by
  have hR := relOk_of hB
  have hnl : n ≤ l.length := by simpa using hR.le
  refine wp_region_any hm ?_
  have key := rel_anyR (P := P) (C := C) (R := R) (specs := ss.zip ds) (Q := Q) (a0 := a) (tl := l.drop n) hR (by simp [hn, hs]) (fun i s dl hi => by rw [List.getElem?_zip_eq_some] at hi; exact hi.2) hrf hsz hlast hC (fun j => by simp) (by simp)
    (fun us hE => by
      have := walk_stepsR (P := P) (ops := l.toArray) (C := C) hE (l.take n) (ss.zip ds) 0 [] [] h (by simp) (fun j hj => by simp only [List.length_take] at hj; simp [List.getElem?_take]; omega) (fun j x hx => by cases hx) ⟨fun u hu => (by cases hu), fun _ => List.Pairwise.nil⟩
      simp only [Nat.zero_add, List.length_take, Nat.min_eq_left hnl] at this
      exact ⟨fun i o hi ho => this.1 i o (Nat.zero_le _) hi ho, this.2⟩)
  have hc0 : ∀ m, m ≤ l.toArray.size → rlCnt (Array.replicate l.toArray.size false) m = m := by
    intro m
    induction m with
    | zero => intro _; rfl
    | succ m ih =>
      intro hm'
      simp only [rlCnt, ih (by omega)]
      rw [show (Array.replicate l.toArray.size false).getD m true = false from getD_in (by simp at hm' ⊢; omega) (getD_replicate_false _ _)]
      simp
  have hsz2 : n + (l.toArray.size - n) = l.toArray.size := by have := hR.le; omega
  have h2 := key n (Array.replicate l.toArray.size false) a { w with drawn := w.drawn + 1 } (fun j => match (ss.zip ds)[j]? with
    | some (.ex v, _) => v
    | _ => undef) (hc0 n hR.le) ⟨by simp, fun j oj _ hl => (by rw [getD_replicate_false] at hl; cases hl), fun t _ ht => getD_in (by simpa using ht) (getD_replicate_false _ _)⟩ hC0
    (fun j v dl hj => by simp only [hj]) (fun j hj hl => by rw [show (Array.replicate l.toArray.size false).getD j true = false from getD_in (by simp at hnl ⊢; omega) (getD_replicate_false _ _)] at hl; cases hl)
    (fun j hj hl => by rw [show (Array.replicate l.toArray.size false).getD j true = false from getD_in (by simp at hnl ⊢; omega) (getD_replicate_false _ _)] at hl; cases hl)
    (fun i j hi hj hl => by rw [show (Array.replicate l.toArray.size false).getD i true = false from getD_in (by simp at hnl ⊢; omega) (getD_replicate_false _ _)] at hl; cases hl)
    ⟨rfl, rfl, fun j o d hj ho hd hl => (by rw [show (Array.replicate l.toArray.size false).getD j true = false from getD_in (by simp at hnl ⊢; omega) (getD_replicate_false _ _)] at hl; cases hl), fun t ht => rfl⟩
  rw [hsz2] at h2
  exact h2

end
/-- the writer is the operation m: it is held to G, the others to Below -/
def RG (G : World → World → Prop) (m : Nat) : Nat → World → World → Prop := fun k => if k = m then G else BelowR
def LastsG (G : World → World → Prop) (p : Value → World → Prop) : Prop := ∀ u w w', G w w' → p u w → p u w'
def formLastG (G : World → World → Prop) (m : Nat) : Nat → List Form → Prop
  | _, [] => True
  | k, .val :: l => formLastG G m (k + 1) l
  | k, .rel p :: l => (if k = m then Lasts p else LastsG G p) ∧ formLastG G m (k + 1) l
  | k, .new p :: l => (if k = m then Lasts p else LastsG G p) ∧ formLastG G m (k + 1) l
def specLastG (G : World → World → Prop) (m k : Nat) (s : Spec) : Prop :=
  match s with
  | .ex _ => True
  | .rel p => if k = m then Lasts p else LastsG G p
  | .new p => if k = m then Lasts p else LastsG G p
theorem exSpecs_ofG {G : World → World → Prop} {m : Nat} : ∀ (l : List Form) (K : List Spec → Prop) (k : Nat), formLastG G m k l → ExSpecs l K → ∃ ss, ss.length = l.length ∧ (∀ (j : Nat) s, ss[j]? = some s → specLastG G m (k + j) s) ∧ K ss
  | [], K, _, _, h => ⟨[], rfl, fun j s h => by simp at h, h⟩
  | .val :: l, K, k, hl, ⟨v, h⟩ => by
    obtain ⟨ss, h1, h2, h3⟩ := exSpecs_ofG l _ (k + 1) hl h
    refine ⟨.ex v :: ss, by simp [h1], fun j s hj => ?_, h3⟩
    cases j with
    | zero => simp at hj; subst hj; exact trivial
    | succ j => have := h2 j s (by simpa using hj); rwa [show k + 1 + j = k + (j + 1) by omega] at this
  | .rel p :: l, K, k, hl, h => by
    obtain ⟨ss, h1, h2, h3⟩ := exSpecs_ofG l _ (k + 1) hl.2 h
    refine ⟨.rel p :: ss, by simp [h1], fun j s hj => ?_, h3⟩
    cases j with
    | zero => simp at hj; subst hj; exact hl.1
    | succ j => have := h2 j s (by simpa using hj); rwa [show k + 1 + j = k + (j + 1) by omega] at this
  | .new p :: l, K, k, hl, h => by
    obtain ⟨ss, h1, h2, h3⟩ := exSpecs_ofG l _ (k + 1) hl.2 h
    refine ⟨.new p :: ss, by simp [h1], fun j s hj => ?_, h3⟩
    cases j with
    | zero => simp at hj; subst hj; exact hl.1
    | succ j => have := h2 j s (by simpa using hj); rwa [show k + 1 + j = k + (j + 1) by omega] at this
theorem specLastG_ok {G : World → World → Prop} (hG : ∀ w w', Below w.heap.size w w' → G w w') {m i j : Nat} {s : Spec} (h : specLastG G m j s) (hij : i ≠ j) {u : Value} {w w' : World} (hR : RG G m i w w') (ho : s.ok u w) : s.ok u w' := by
  cases s with
  | ex v => exact ho
  | rel p =>
    simp only [specLastG] at h
    unfold RG at hR
    by_cases hj : j = m
    · rw [if_pos hj] at h
      rw [if_neg (by omega)] at hR
      exact h u w w' hR ho
    · rw [if_neg hj] at h
      by_cases hi : i = m
      · rw [if_pos hi] at hR; exact h u w w' hR ho
      · rw [if_neg hi] at hR; exact h u w w' (hG _ _ hR) ho
  | new p =>
    simp only [specLastG] at h
    unfold RG at hR
    by_cases hj : j = m
    · rw [if_pos hj] at h
      rw [if_neg (by omega)] at hR
      exact h u w w' hR ho
    · rw [if_neg hj] at h
      by_cases hi : i = m
      · rw [if_pos hi] at hR; exact h u w w' hR ho
      · rw [if_neg hi] at hR; exact h u w w' (hG _ _ hR) ho
section
variable {P : Program} {ops : Array Oper} {C : World → Prop} {fin : Act → World → Prop}
theorem wp_region_relsG {id : Nat} {Q : Exit → Act → World → Prop} {a : Act} {w : World} {l : List Oper} (n : Nat) (ds : List (List Nat)) (form : List Form) (C : World → Prop) (G : World → World → Prop) (m : Nat) (hm : P.follows .mixedOrders = true) (hB : relB l.toArray n ds = true) (hn : ds.length = n) (hs : form.length = n)
    (hC0 : C w.drew) (hG : ∀ w w', Below w.heap.size w w' → G w w') (hGs : ∀ w w', G w w' → w.heap.size ≤ w'.heap.size) (hC : ∀ w w', C w → G w w' → C w') (hlast : formLastG G m 0 form)
    (h : ExSpecs form fun ss => relWalkR P l.toArray C (fun a' w' => wpList P l.toArray Q (l.drop n) a' w') (RG G m) (l.take n) (ss.zip ds) 0 [] [] a) : (Code.region id l.toArray true).wp P Q a w := by
  obtain ⟨ss, h1, h2, h3⟩ := exSpecs_ofG form _ 0 hlast h
  have hto : ∀ i w w', RG G m i w w' → G w w' := fun i w w' h => by
    unfold RG at h
    split at h
    · exact h
    · exact hG _ _ h
  refine wp_region_relR n ds ss C hm hB hn (h1.trans hs) hC0 (RG G m) (fun i w => ?_) (fun i w w' h => hGs _ _ (hto i w w' h)) (fun i j s dl hi hij _ hj u w w' hR ho => ?_) (fun i w w' hc h => hC w w' hc (hto i w w' h)) h3
  · unfold RG
    split
    · exact hG _ _ (Below.refl _ _)
    · exact Below.refl _ _
  · have hj' := (List.getElem?_zip_eq_some.1 hj).1
    have := h2 j s hj'
    rw [Nat.zero_add] at this
    exact specLastG_ok hG this hij hR ho
variable {G : World → World → Prop} {m : Nat}
theorem rg_of {k : Nat} (hk : (k == m) = false) {o : Oper} {a : Act} {w : World} {p : Value → World → Prop} (h : relOp P ops o a w p) : relOpR (RG G m k) P ops o a w p := by
  have : RG G m k = BelowR := by unfold RG; rw [if_neg (by simpa using hk)]
  rw [this]
  exact relOpR_of (fun _ _ h => h) h
theorem relWalkR_ex {o : Oper} {l : List Oper} {v : Value} {ss : List Spec} {d : List Nat} {ds : List (List Nat)} {k : Nat} {Γ : Facts} {U : List Value} {a : Act} (hg : o.guard = none) (hk : (k == m) = false) (h1 : ∀ w, C w → factsOf Γ d w → relAt P o a w fun u _ => u = v)
    (h2 : ∀ K : Act → Prop, (∀ a', relWalkR P ops C fin (RG G m) l (ss.zip ds) (k + 1) Γ U a' → K a') → K (a.put o.dst v)) : relWalkR P ops C fin (RG G m) (o :: l) ((Spec.ex v :: ss).zip (d :: ds)) k Γ U a :=
  ⟨fun w hC hF => rg_of hk (relOp_plain hg (h1 w hC hF)), h2 _ fun _ h => h⟩
theorem relWalkR_rel {o : Oper} {l : List Oper} {p : Value → World → Prop} {ss : List Spec} {d : List Nat} {ds : List (List Nat)} {k : Nat} {Γ : Facts} {U : List Value} {a : Act} (hg : o.guard = none) (hk : (k == m) = false) (h1 : ∀ w, C w → factsOf Γ d w → relAt P o a w p)
    (h2 : ∀ (u : Value) (K : Act → Prop), (∀ a', relWalkR P ops C fin (RG G m) l (ss.zip ds) (k + 1) ((k, p u) :: Γ) U a' → K a') → K (a.put o.dst u)) : relWalkR P ops C fin (RG G m) (o :: l) ((Spec.rel p :: ss).zip (d :: ds)) k Γ U a :=
  ⟨fun w hC hF => rg_of hk (relOp_plain hg (h1 w hC hF)), fun u => h2 u _ fun _ h => h⟩
theorem relWalkR_new {o : Oper} {l : List Oper} {p : Value → World → Prop} {ss : List Spec} {d : List Nat} {ds : List (List Nat)} {k : Nat} {Γ : Facts} {U : List Value} {a : Act} (hg : o.guard = none) (hk : (k == m) = false) (h1 : ∀ w, C w → factsOf Γ d w → relAt P o a w fun u w' => p u w' ∧ Fresh w u w')
    (h2 : ∀ (u : Value) (K : Act → Prop), (∀ a', relWalkR P ops C fin (RG G m) l (ss.zip ds) (k + 1) ((k, p u) :: Γ) (u :: U) a' → K a') → K (a.put o.dst u)) : relWalkR P ops C fin (RG G m) (o :: l) ((Spec.new p :: ss).zip (d :: ds)) k Γ U a :=
  ⟨fun w hC hF => rg_of hk (relOp_plain hg (h1 w hC hF)), fun u => h2 u _ fun _ h => h⟩
/-- the writer -/
theorem relWalkR_wr {o : Oper} {l : List Oper} {p : Value → World → Prop} {ss : List Spec} {d : List Nat} {ds : List (List Nat)} {k : Nat} {Γ : Facts} {U : List Value} {a : Act} (hg : o.guard = none) (hk : (k == m) = true) (h1 : ∀ w, C w → factsOf Γ d w → relAtR G P o a w p)
    (h2 : ∀ (u : Value) (K : Act → Prop), (∀ a', relWalkR P ops C fin (RG G m) l (ss.zip ds) (k + 1) ((k, p u) :: Γ) U a' → K a') → K (a.put o.dst u)) : relWalkR P ops C fin (RG G m) (o :: l) ((Spec.rel p :: ss).zip (d :: ds)) k Γ U a :=
  ⟨fun w hC hF => by
    have : RG G m k = G := by unfold RG; rw [if_pos (by simpa using hk)]
    rw [this]
    unfold relOpR Region.wanted
    rw [hg]
    exact h1 w hC hF, fun u => h2 u _ fun _ h => h⟩
theorem relWalkR_end {ss : List Spec} {ds : List (List Nat)} {k : Nat} {Γ : Facts} {U : List Value} {a : Act} (h : ∀ w, C w → factsAll Γ w → U.Pairwise (fun u v => blkOf u ≠ blkOf v) → fin a w) : relWalkR P ops C fin (RG G m) [] (ss.zip ds) k Γ U a := h
end
end Go.Proofs.YtmcgbjjcpcgcfaaGreatDoor
