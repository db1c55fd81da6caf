/-
  name.kinds, name.of, its closure, name.Set, name.Letter: what each call returns.
-/
import Derived.Test.YtbdmieelokmhiaaGreatDoorBlk
import Derived.Test.YtbdmieelokmhiaaGreatDoorStrs
import Derived.Test.YtbdmieelokmhiaaGreatDoorDayTabs
import Derived.Deep.QuietTactic
import Derived.BigQuiet
import Derived.Handy
import Derived.Deep.RegionHeld3
import Derived.Deep.MidRow
import Derived.Outline
import Derived.Deep.DeepCutAuto
import Derived.Deep.CutBlock
set_option linter.unusedVariables false
namespace Go.Proofs.YtbdmieelokmhiaaGreatDoor
open Go.RowKit

def rowOf (f : Nat → Nat) : Array Value := (Array.range 256).map fun c => .int .u8 (f c : Int)
theorem rowOf_size (f : Nat → Nat) : (rowOf f).size = 256 := by simp [rowOf]
theorem rowOf_at (f : Nat → Nat) (i : Nat) (h : i < 256) : (rowOf f)[i]? = some (.int .u8 (f i : Int)) := by
  simp [rowOf, h]
theorem rowOf_none (f : Nat → Nat) (i : Nat) (h : ¬ i < 256) : (rowOf f)[i]? = none := Array.getElem?_eq_none (by rw [rowOf_size]; omega)
theorem rowOf_set (f : Nat → Nat) (i x : Nat) (h : i < 256) (g : Nat → Nat) (hg : ∀ c, c < 256 → g c = if c = i then x else f c) : (rowOf f).setIfInBounds i (.int .u8 (x : Int)) = rowOf g := by
  apply Array.ext_getElem?
  intro j
  rw [Array.getElem?_setIfInBounds, rowOf_size, if_pos h]
  by_cases hj : j < 256
  · rw [rowOf_at _ _ hj, rowOf_at _ _ hj, hg j hj]
    by_cases e : i = j
    · rw [if_pos e, if_pos e.symm]
    · rw [if_neg e, if_neg (fun k => e k.symm)]
  · rw [rowOf_none _ _ hj, rowOf_none _ _ hj, if_neg (by omega)]
def letTo (k c : Nat) : Nat := if (65 ≤ c ∧ c < 65 + k) ∨ (97 ≤ c ∧ c < 97 + k) then 1 else 0
def digTo (k c : Nat) : Nat := if 48 ≤ c ∧ c < 48 + k then 2 else letTo 26 c
def kindN (c : Nat) : Nat := if c = 95 then 4 else if c = 45 then 8 else if c = 46 ∨ c = 43 then 16 else digTo 10 c

theorem Blk.there {w : World} {g : Nat} {t : TypeId} {cs : Array Value} (h : Blk w g t cs) {n : Nat} (hn : n ≤ cs.size) : w.there g 0 n := fun j hj => by
  rw [Nat.zero_add]
  exact ⟨by rw [h.cell, Array.getElem?_eq_getElem (by omega)]; rfl, h.frozen j⟩
theorem Blk.sets {g : Nat} {t : TypeId} : ∀ (vs : List Value) (o : Nat) (w : World) (cs : Array Value), Blk w g t cs → o + vs.length ≤ cs.size →
    ∃ cs', Blk (w.setCells g o vs) g t cs' ∧ ∀ j, cs'[j]? = if o ≤ j ∧ j < o + vs.length then vs[j - o]? else cs[j]?
  | [], o, w, cs, h, _ => ⟨cs, h, fun j => by rw [if_neg (by simp only [List.length_nil]; omega)]⟩
  | v :: vs, o, w, cs, h, hl => by
    simp only [List.length_cons] at hl
    obtain ⟨cs', h1, h2⟩ := Blk.sets vs (o + 1) (w.setCell ⟨g, o, none⟩ v) (cs.setIfInBounds o v) (h.set_ o v) (by simp; omega)
    refine ⟨cs', h1, fun j => ?_⟩
    rw [h2 j, Array.getElem?_setIfInBounds]
    simp only [List.length_cons]
    by_cases h3 : o + 1 ≤ j ∧ j < o + 1 + vs.length
    · rw [if_pos h3, if_pos (by omega), show j - o = (j - (o + 1)) + 1 by omega, List.getElem?_cons_succ]
    · rw [if_neg h3]
      by_cases h4 : o = j
      · subst h4
        have ho : o < cs.size := by omega
        simp [ho]
      · rw [if_neg h4, if_neg (by omega)]
theorem Blk.setAll {w : World} {g : Nat} {t : TypeId} {cs : Array Value} (h : Blk w g t cs) (cs' : Array Value) (hs : cs'.size = cs.size) : Blk (w.setCells g 0 cs'.toList) g t cs' := by
  obtain ⟨c, h1, h2⟩ := Blk.sets cs'.toList 0 w cs h (by simp [hs])
  have e : c = cs' := by
    apply Array.ext_getElem?
    intro j
    rw [h2 j]
    simp only [Nat.zero_add, Array.length_toList, Nat.sub_zero, Array.getElem?_toList]
    by_cases hj : j < cs'.size
    · rw [if_pos ⟨by omega, hj⟩]
    · rw [if_neg (by omega), Array.getElem?_eq_none (by omega), Array.getElem?_eq_none (by omega)]
  rw [e] at h1
  exact h1
theorem below_sets {B : Nat} {a : World} {g : Nat} (hg : B ≤ g) : ∀ (vs : List Value) (o : Nat) (w : World), Below B a w → Below B a (w.setCells g o vs)
  | [], _, _, h => h
  | v :: vs, o, w, h => below_sets hg vs (o + 1) _ (h.setCell hg v)
theorem row_one (f : Nat → Nat) : (rowOf f).all (·.oneCell') = true := by
  rw [Array.all_eq_true]
  intro i hi
  simp only [rowOf, Array.getElem_map]
  rfl
theorem info256 : (Tryz.prog.info? 172).map (·.size) = some 256 := by kernel_rfl
theorem zero_row : Tryz.zeroCells172 = rowOf (letTo 0) := by
  have h : rowOf (letTo 0) = rowOf fun _ => 0 := by
    unfold rowOf
    congr 1
    funext c
    congr 1
    unfold letTo
    rw [if_neg (by omega)]
  exact (show Tryz.zeroCells172 = rowOf fun _ => 0 by kernel_rfl).trans h.symm
theorem let_step (k : Nat) (hk : k < 26) : ((rowOf (letTo k)).setIfInBounds (65 + k) (.int .u8 1)).setIfInBounds (97 + k) (.int .u8 1) = rowOf (letTo (k + 1)) := by
  rw [show (Value.int .u8 1) = .int .u8 ((1 : Nat) : Int) from rfl]
  rw [rowOf_set (letTo k) (65 + k) 1 (by omega) (fun c => if c = 65 + k then 1 else letTo k c) (fun c _ => rfl)]
  refine rowOf_set _ (97 + k) 1 (by omega) _ (fun c _ => ?_)
  simp only [letTo]
  split <;> split <;> (try split) <;> (try split) <;> omega
theorem dig_step (k : Nat) (hk : k < 10) : (rowOf (digTo k)).setIfInBounds (48 + k) (.int .u8 2) = rowOf (digTo (k + 1)) := by
  rw [show (Value.int .u8 2) = .int .u8 ((2 : Nat) : Int) from rfl]
  refine rowOf_set _ (48 + k) 2 (by omega) _ (fun c _ => ?_)
  simp only [digTo]
  by_cases h1 : c = 48 + k
  · rw [if_pos (by omega), if_pos h1]
  · rw [if_neg h1]
    by_cases h2 : 48 ≤ c ∧ c < 48 + k
    · rw [if_pos (by omega), if_pos h2]
    · rw [if_neg (by omega), if_neg h2]
theorem last_step : ((((rowOf (digTo 10)).setIfInBounds 95 (.int .u8 4)).setIfInBounds 45 (.int .u8 8)).setIfInBounds 46 (.int .u8 16)).setIfInBounds 43 (.int .u8 16) = rowOf kindN := by
  rw [show (Value.int .u8 4) = .int .u8 ((4 : Nat) : Int) from rfl, show (Value.int .u8 8) = .int .u8 ((8 : Nat) : Int) from rfl, show (Value.int .u8 16) = .int .u8 ((16 : Nat) : Int) from rfl]
  rw [rowOf_set (digTo 10) 95 4 (by omega) (fun c => if c = 95 then 4 else digTo 10 c) (fun c _ => rfl)]
  rw [rowOf_set _ 45 8 (by omega) (fun c => if c = 45 then 8 else if c = 95 then 4 else digTo 10 c) (fun c _ => rfl)]
  rw [rowOf_set _ 46 16 (by omega) (fun c => if c = 46 then 16 else if c = 45 then 8 else if c = 95 then 4 else digTo 10 c) (fun c _ => rfl)]
  refine rowOf_set _ 43 16 (by omega) _ (fun c _ => ?_)
  simp only [kindN]
  by_cases h1 : c = 43
  · subst h1; rfl
  · rw [if_neg h1]
    by_cases h2 : c = 46
    · subst h2; rfl
    · rw [if_neg h2, if_neg (show ¬ (c = 46 ∨ c = 43) by omega)]
      by_cases h3 : c = 45
      · subst h3; rfl
      · rw [if_neg h3, if_neg h3]

set_option maxRecDepth 100000 in
set_option maxHeartbeats 1000000 in
theorem kinds_any (w : World) :
    Calls Tryz.prog 149 #[] w fun e w' => e = .returned (.agg (rowOf kindN)) ∧ Below w.heap.size w w' := by
  go_enter Tryz.func149, Tryz.ntmps149
  go_wp2_with fail
  have HB0 := Lib.hid (show Blk ((w.alloc (.cells Tryz.zeroCells172 172)).alloc (.cells Tryz.zeroCells172 172)) (w.heap.size + 1) 172 (rowOf (letTo 0)) by rw [← zero_row]; exact Blk.new' _ _ _ (by simp))
  have HA0 := Lib.hid (show Blk ((w.alloc (.cells Tryz.zeroCells172 172)).alloc (.cells Tryz.zeroCells172 172)) w.heap.size 172 (rowOf (letTo 0)) by rw [← zero_row]; exact (Blk.new' _ _ _ rfl).alloc _)
  have HW0 := Lib.hid (show Below w.heap.size w ((w.alloc (.cells Tryz.zeroCells172 172)).alloc (.cells Tryz.zeroCells172 172)) from ((Below.refl _ _).alloc (Nat.le_refl _) _).alloc (by simp) _)
  generalize (w.alloc (.cells Tryz.zeroCells172 172)).alloc (.cells Tryz.zeroCells172 172) = W0 at *
  go_loopw [4] (fun i wr => ∃ k : Nat, k ≤ 26 ∧ i = .int .i64 (k : Int) ∧ Blk wr (w.heap.size + 1) 172 (rowOf (letTo k)) ∧ Blk wr w.heap.size 172 (rowOf (letTo 0)) ∧ Below w.heap.size w wr) (fun i _ => 26 - (intOf i).toNat)
  case atStart => exact ⟨0, by omega, rfl, HB0.out, HA0.out, HW0.out⟩
  case round =>
    obtain ⟨k, hk, rfl, hB, hA, hb⟩ := hrel
    clear HB0 HA0 HW0
    by_cases hlt : k < 26
    · have hi : (k : Int) < 26 := by omega
      have c1 : wr.cell? ⟨w.heap.size + 1, 65 + k, none⟩ = some (.int .u8 (letTo k (65 + k) : Int)) := hB.cell_ (rowOf_at _ _ (by omega))
      have f1 := hB.frozen (65 + k)
      have c2 : wr.cell? ⟨w.heap.size + 1, 97 + k, none⟩ = some (.int .u8 (letTo k (97 + k) : Int)) := hB.cell_ (rowOf_at _ _ (by omega))
      have f2 := hB.frozen (97 + k)
      have t1 : (65 + (k : Int)).toNat = 65 + k := by omega
      have t2 : (97 + (k : Int)).toNat = 97 + k := by omega
      generalize letTo k (65 + k) = v1 at *
      generalize letTo k (97 + k) = v2 at *
      have HB := Lib.hid hB
      have HA := Lib.hid hA
      have Hb := Lib.hid hb
      clear hB hA hb
      go_wp2_with fail
      refine ⟨⟨k + 1, by omega, by go_num, ?_, (HA.out.far (by show w.heap.size ≠ w.heap.size + 1; omega) _).far (by show w.heap.size ≠ w.heap.size + 1; omega) _, (Hb.out.setCell (by show w.heap.size ≤ w.heap.size + 1; omega) _).setCell (by show w.heap.size ≤ w.heap.size + 1; omega) _⟩, by simp [intOf]; omega⟩
      rw [← let_step k hlt]
      exact (HB.out.set_ _ _).set_ _ _
    · obtain rfl : k = 26 := by omega
      have HB := Lib.hid (show Blk wr (w.heap.size + 1) 172 (rowOf (digTo 0)) by
        rw [show digTo 0 = letTo 26 from funext fun c => if_neg (by omega)]; exact hB)
      have HA := Lib.hid hA
      have Hb := Lib.hid hb
      clear hB hA hb
      go_wp2_with fail
      obtain ⟨W1, hW1⟩ : ∃ W1, W1 = wr := ⟨_, rfl⟩
      subst hW1
      go_loopw [14] (fun i wr => ∃ k : Nat, k ≤ 10 ∧ i = .int .i64 (k : Int) ∧ Blk wr (w.heap.size + 1) 172 (rowOf (digTo k)) ∧ Blk wr w.heap.size 172 (rowOf (letTo 0)) ∧ Below w.heap.size w wr) (fun i _ => 10 - (intOf i).toNat)
      case atStart => exact ⟨0, by omega, rfl, HB.out, HA.out, Hb.out⟩
      case round =>
        obtain ⟨k, hk, rfl, hB, hA, hb⟩ := hrel
        clear HB HA Hb
        by_cases hlt : k < 10
        · have hi : (k : Int) < 10 := by omega
          have c1 : wr.cell? ⟨w.heap.size + 1, 48 + k, none⟩ = some (.int .u8 (digTo k (48 + k) : Int)) := hB.cell_ (rowOf_at _ _ (by omega))
          have f1 := hB.frozen (48 + k)
          have t1 : (48 + (k : Int)).toNat = 48 + k := by omega
          generalize digTo k (48 + k) = v1 at *
          have HB := Lib.hid hB
          have HA := Lib.hid hA
          have Hb := Lib.hid hb
          clear hB hA hb
          go_wp2_with fail
          refine ⟨⟨k + 1, by omega, by go_num, ?_, HA.out.far (by show w.heap.size ≠ w.heap.size + 1; omega) _, Hb.out.setCell (by show w.heap.size ≤ w.heap.size + 1; omega) _⟩, by simp [intOf]; omega⟩
          rw [← dig_step k hlt]
          exact HB.out.set_ _ _
        · obtain rfl : k = 10 := by omega
          have c1 : wr.cell? ⟨w.heap.size + 1, 95, none⟩ = some (.int .u8 (digTo 10 95 : Int)) := hB.cell_ (rowOf_at _ _ (by omega))
          have c2 : wr.cell? ⟨w.heap.size + 1, 45, none⟩ = some (.int .u8 (digTo 10 45 : Int)) := hB.cell_ (rowOf_at _ _ (by omega))
          have c3 : wr.cell? ⟨w.heap.size + 1, 46, none⟩ = some (.int .u8 (digTo 10 46 : Int)) := hB.cell_ (rowOf_at _ _ (by omega))
          have c4 : wr.cell? ⟨w.heap.size + 1, 43, none⟩ = some (.int .u8 (digTo 10 43 : Int)) := hB.cell_ (rowOf_at _ _ (by omega))
          have f1 := hB.frozen 95
          have f2 := hB.frozen 45
          have f3 := hB.frozen 46
          have f4 := hB.frozen 43
          have HB := Lib.hid hB
          have HA := Lib.hid hA
          have Hb := Lib.hid hb
          clear hB hA hb
          have hrs : (Tryz.prog.info? 172).map (·.size) = some (rowOf kindN).size := by rw [rowOf_size]; exact info256
          have HK := Lib.hid (show Blk ((((wr.setCell ⟨w.heap.size + 1, 95, none⟩ (.int .u8 4)).setCell ⟨w.heap.size + 1, 45, none⟩ (.int .u8 8)).setCell ⟨w.heap.size + 1, 46, none⟩ (.int .u8 16)).setCell ⟨w.heap.size + 1, 43, none⟩ (.int .u8 16)) (w.heap.size + 1) 172 (rowOf kindN) by
            rw [← last_step]; exact (((HB.out.set_ _ _).set_ _ _).set_ _ _).set_ _ _)
          have HA2 := Lib.hid (show Blk ((((wr.setCell ⟨w.heap.size + 1, 95, none⟩ (.int .u8 4)).setCell ⟨w.heap.size + 1, 45, none⟩ (.int .u8 8)).setCell ⟨w.heap.size + 1, 46, none⟩ (.int .u8 16)).setCell ⟨w.heap.size + 1, 43, none⟩ (.int .u8 16)) w.heap.size 172 (rowOf (letTo 0)) from
            (((HA.out.far (by show w.heap.size ≠ w.heap.size + 1; omega) _).far (by show w.heap.size ≠ w.heap.size + 1; omega) _).far (by show w.heap.size ≠ w.heap.size + 1; omega) _).far (by show w.heap.size ≠ w.heap.size + 1; omega) _)
          have Hb2 := Lib.hid (show Below w.heap.size w ((((wr.setCell ⟨w.heap.size + 1, 95, none⟩ (.int .u8 4)).setCell ⟨w.heap.size + 1, 45, none⟩ (.int .u8 8)).setCell ⟨w.heap.size + 1, 46, none⟩ (.int .u8 16)).setCell ⟨w.heap.size + 1, 43, none⟩ (.int .u8 16)) from
            (((Hb.out.setCell (by show w.heap.size ≤ w.heap.size + 1; omega) _).setCell (by show w.heap.size ≤ w.heap.size + 1; omega) _).setCell (by show w.heap.size ≤ w.heap.size + 1; omega) _).setCell (by show w.heap.size ≤ w.heap.size + 1; omega) _)
          go_upto_region 13 with fail
          generalize (((wr.setCell ⟨w.heap.size + 1, 95, none⟩ (.int .u8 4)).setCell ⟨w.heap.size + 1, 45, none⟩ (.int .u8 8)).setCell ⟨w.heap.size + 1, 46, none⟩ (.int .u8 16)).setCell ⟨w.heap.size + 1, 43, none⟩ (.int .u8 16) = W2 at *
          go_wp2_with (first
            | (refine wpList_load_row rfl 172 (.tmp 1) rfl (w.heap.size + 1) rfl 172 (rowOf kindN) (0, 0) _ HK.out Tryz.underlying172 rfl hrs ?_)
            | (refine wpList_store_mid rfl 172 (.tmp 0) (.tmp 25) rfl w.heap.size 0 (rowOf kindN) rfl rfl (HA2.out.there (by rw [rowOf_size, rowOf_size]; exact Nat.le_refl _)) hrs (row_one _) ?_))
          refine bodyPost_ret (results_cell_row rfl _ _ w.heap.size 172 (rowOf kindN) (0, 0) _ rfl (HA2.out.setAll (rowOf kindN) (by rw [rowOf_size, rowOf_size])) Tryz.underlying172 rfl hrs) rfl ⟨rfl, below_sets (Nat.le_refl _) _ _ _ Hb2.out⟩

theorem kindN_lt (x : Nat) : kindN x < 32 := by
  unfold kindN digTo letTo
  repeat' split
  all_goals omega
theorem and_fin : ∀ a : Fin 32, ∀ b : Fin 256, (bits BinOp.and IntKind.u8 (a.val : Int) (b.val : Int) == 0) = (a.val &&& b.val == 0) := by decide +kernel
theorem and_zero {a b : Nat} (ha : a < 32) (hb : b < 256) (h : a &&& b = 0) : (bits BinOp.and IntKind.u8 (a : Int) (b : Int) == 0) = true := by
  have := and_fin ⟨a, ha⟩ ⟨b, hb⟩
  simp only at this
  rw [this, h]; rfl
theorem and_some {a b : Nat} (ha : a < 32) (hb : b < 256) (h : ¬ a &&& b = 0) : (bits BinOp.and IntKind.u8 (a : Int) (b : Int) == 0) = false := by
  have := and_fin ⟨a, ha⟩ ⟨b, hb⟩
  simp only at this
  rw [this]; exact beq_eq_false_iff_ne.2 h
theorem take_snoc' (s : ByteArray) (k : Nat) (h : k < s.size) : s.data.toList.take (k + 1) = s.data.toList.take k ++ [s[k]] := by
  rw [List.take_succ_eq_append_getElem (by simpa using h)]; rfl
def ofB (least most sm : Nat) (l : List UInt8) : Bool := decide (least ≤ l.length ∧ l.length ≤ most) && l.all fun c => kindN c.toNat &&& sm != 0
/-- a function value that name.of has made -/
def IsOf (w : World) (v : Value) (least most sm : Nat) : Prop := ∃ a b c d : Nat, v = .func (.func 150) #[] #[.pointer (some ⟨a, 0, none⟩), .pointer (some ⟨b, 0, none⟩), .pointer (some ⟨c, 0, none⟩), .pointer (some ⟨d, 0, none⟩)] ∧
  w.cell? ⟨a, 0, none⟩ = some (.int .i64 (least : Int)) ∧ w.cell? ⟨b, 0, none⟩ = some (.int .i64 (most : Int)) ∧ Blk w c 172 (rowOf kindN) ∧ w.cell? ⟨d, 0, none⟩ = some (.int .u8 (sm : Int))

set_option maxRecDepth 100000 in
set_option maxHeartbeats 1000000 in
theorem of_any (least most sm : Nat) (w : World) :
    Calls Tryz.prog 115 #[.int .i64 (least : Int), .int .i64 (most : Int), .int .u8 (sm : Int)] w fun e w' => (∃ v, e = .returned v ∧ IsOf w' v least most sm) ∧ Below w.heap.size w w' := by
  go_enter Tryz.func115, Tryz.ntmps115
  go_wp2_with fail
  refine (kinds_any _).mono ?_
  rintro e w1 ⟨rfl, hb1⟩
  have hB0 : Below w.heap.size w (((w.alloc (.cells #[.int .i64 (least : Int)] 3)).alloc (.cells #[.int .i64 (most : Int)] 3)).alloc (.cells #[.int .u8 (sm : Int)] 5)) := (((Below.refl _ _).alloc (Nat.le_refl _) _).alloc (by simp) _).alloc (by simp; omega) _
  have b0 : Blk w1 w.heap.size 3 #[.int .i64 (least : Int)] := (((Blk.new' _ _ _ rfl).alloc _).alloc _).below hb1 (by simp; omega)
  have b1 : Blk w1 (w.heap.size + 1) 3 #[.int .i64 (most : Int)] := ((Blk.new' _ _ _ (by simp)).alloc _).below hb1 (by simp)
  have b2 : Blk w1 (w.heap.size + 1 + 1) 5 #[.int .u8 (sm : Int)] := (Blk.new' _ _ _ (by simp)).below hb1 (by simp)
  have HB := Lib.hid (And.intro b0 (And.intro b1 (And.intro b2 (hB0.trans (hb1.mono (by simp; omega))))))
  clear hb1 hB0 b0 b1 b2
  have hrs : (Tryz.prog.info? 172).map (·.size) = some (rowOf kindN).size := by rw [rowOf_size]; exact info256
  have HZ := Lib.hid (show Blk (w1.alloc (.cells Tryz.zeroCells172 172)) w1.heap.size 172 (rowOf (letTo 0)) by rw [← zero_row]; exact Blk.new' _ _ _ rfl)
  go_wp2_with (refine wpList_store_mid rfl 172 (.tmp 7) (.tmp 8) rfl w1.heap.size 0 (rowOf kindN) rfl rfl (HZ.out.there (by rw [rowOf_size, rowOf_size]; exact Nat.le_refl _)) hrs (row_one _) ?_)
  go_ret
  obtain ⟨b0, b1, b2, hB⟩ := HB.out
  have hlt := b0.lt
  have keep : ∀ {g : Nat} {t : TypeId} {cs : Array Value}, Blk w1 g t cs → Blk ((w1.alloc (.cells Tryz.zeroCells172 172)).setCells w1.heap.size 0 (rowOf kindN).toList) g t cs := fun {g t cs} h =>
    h.below (B := w1.heap.size) (below_sets (Nat.le_refl _) _ _ _ ((Below.refl _ _).alloc (Nat.le_refl _) _)) h.lt
  exact ⟨⟨_, rfl, _, _, _, _, rfl, (keep b0).cell_ rfl, (keep b1).cell_ rfl, HZ.out.setAll (rowOf kindN) (by rw [rowOf_size, rowOf_size]), (keep b2).cell_ rfl⟩, below_sets (by omega) _ _ _ (hB.alloc hB.size _)⟩

set_option maxRecDepth 100000 in
set_option maxHeartbeats 1000000 in
theorem of1_any (least most sm : Nat) (s : ByteArray) (a b c d : Nat) (w : World) (hsm : sm < 256) (hs : s.size ≤ 1048576) (ha : w.cell? ⟨a, 0, none⟩ = some (.int .i64 (least : Int))) (hb : w.cell? ⟨b, 0, none⟩ = some (.int .i64 (most : Int)))
    (hc : Blk w c 172 (rowOf kindN)) (hd : w.cell? ⟨d, 0, none⟩ = some (.int .u8 (sm : Int))) :
    Calls Tryz.prog 150 #[.string s, .pointer (some ⟨a, 0, none⟩), .pointer (some ⟨b, 0, none⟩), .pointer (some ⟨c, 0, none⟩), .pointer (some ⟨d, 0, none⟩)] w fun e w' => e = .returned (.bool (ofB least most sm s.data.toList)) ∧ ∃ n, w' = w.drewN n := by
  by_cases h1 : (s.size : Int) < (least : Int)
  · have HR := Lib.hid (show ofB least most sm s.data.toList = false by simp [ofB]; omega)
    go_enter Tryz.func150, Tryz.ntmps150
    go_wp2_with fail
    go_ret
    exact ⟨by rw [HR.out]; rfl, 0, rfl⟩
  by_cases h2 : (most : Int) < (s.size : Int)
  · have HR := Lib.hid (show ofB least most sm s.data.toList = false by simp [ofB]; omega)
    go_enter Tryz.func150, Tryz.ntmps150
    go_wp2_with fail
    go_ret
    exact ⟨by rw [HR.out]; rfl, 0, rfl⟩
  go_enter Tryz.func150, Tryz.ntmps150
  go_wp2_with fail
  go_loopw [20] (fun i wr => ∃ k n : Nat, k ≤ s.size ∧ i = .int .i64 (k : Int) ∧ Aside ((s.data.toList.take k).all (fun c => kindN c.toNat &&& sm != 0) = true) ∧ wr = w.drewN n) (fun i _ => s.size - (intOf i).toNat)
  case atStart => exact ⟨0, 0, by omega, rfl, by simp [Aside], rfl⟩
  case round =>
    obtain ⟨k, n, hk, rfl, hall, rfl⟩ := hrel
    by_cases hlt : k < s.size
    · obtain ⟨x, hx⟩ : ∃ x : Nat, x = (s[k]'hlt).toNat := ⟨_, rfl⟩
      have g0 : ∀ h, (s[k]'h).toNat = x := fun _ => hx.symm
      have hx256 : x < 256 := by rw [hx]; exact (s[k]'hlt).toNat_lt
      have hcx : w.cell? ⟨c, x, none⟩ = some (.int .u8 (kindN x : Int)) := hc.cell_ (rowOf_at _ _ hx256)
      have x0 : (0 : Int) ≤ (x : Int) := by omega
      have x1 : (x : Int) < 256 := by omega
      have k0 : (0 : Int) ≤ (k : Int) := by omega
      have k1 : (k : Int) < (s.size : Int) := by omega
      have HX := Lib.hid hx
      have HC := Lib.hid hc
      generalize hkv : kindN x = kv at *
      have HKV := Lib.hid hkv
      clear hx hc hkv
      have hkv32 : kv < 32 := by rw [← HKV.out]; exact kindN_lt x
      have HT := Lib.hid (take_snoc' s k hlt)
      by_cases hz : kv &&& sm = 0
      · have hbz := and_zero hkv32 hsm hz
        have HR := Lib.hid (show ofB least most sm s.data.toList = false by
          rw [ofB, Bool.and_eq_false_iff]
          refine .inr ?_
          rw [← List.take_append_drop (k + 1) s.data.toList, HT.out, List.all_append, List.all_append]
          simp only [List.all_cons, List.all_nil, ← HX.out, HKV.out, hz]
          simp)
        go_wp2_with fail
        go_quiet (fail)
        go_wp2_with fail
        go_ret
        exact ⟨by rw [HR.out]; rfl, n + nq, by simp [World.drewN, Nat.add_assoc]⟩
      · have hbz := and_some hkv32 hsm hz
        go_wp2_with fail
        go_quiet (fail)
        go_wp2_with fail
        go_roundw
        case rel =>
          refine ⟨k + 1, n + nq, by omega, by go_num, ?_, by simp [World.drewN]⟩
          show (List.take (k + 1) s.data.toList).all _ = true
          rw [HT.out, List.all_append]
          simp only [List.all_cons, List.all_nil, ← HX.out, HKV.out]
          have h : (List.take k s.data.toList).all (fun c => kindN c.toNat &&& sm != 0) = true := hall
          rw [h]
          simp [hz]
        case measure => simp [intOf]; omega
    · obtain rfl : k = s.size := by omega
      have HR := Lib.hid (show ofB least most sm s.data.toList = true by
        rw [ofB, Bool.and_eq_true]
        refine ⟨by simp; omega, ?_⟩
        have h : (List.take s.size s.data.toList).all (fun c => kindN c.toNat &&& sm != 0) = true := hall
        rwa [List.take_of_length_le (by simp)] at h)
      clear hall
      go_wp2_with fail
      go_ret
      exact ⟨by rw [HR.out]; rfl, n, rfl⟩

theorem ofv_any {least most sm : Nat} {v : Value} {w : World} (h : IsOf w v least most sm) (s : ByteArray) (hsm : sm < 256) (hs : s.size ≤ 1048576) :
    ∃ a b c d : Nat, v = .func (.func 150) #[] #[.pointer (some ⟨a, 0, none⟩), .pointer (some ⟨b, 0, none⟩), .pointer (some ⟨c, 0, none⟩), .pointer (some ⟨d, 0, none⟩)] ∧ ∀ w', Below w.heap.size w w' →
    Calls Tryz.prog 150 #[.string s, .pointer (some ⟨a, 0, none⟩), .pointer (some ⟨b, 0, none⟩), .pointer (some ⟨c, 0, none⟩), .pointer (some ⟨d, 0, none⟩)] w' fun e w'' => e = .returned (.bool (ofB least most sm s.data.toList)) ∧ Below w'.heap.size w' w'' := by
  obtain ⟨a, b, c, d, rfl, h1, h2, h3, h4⟩ := h
  refine ⟨a, b, c, d, rfl, fun w' hb => ?_⟩
  refine (of1_any least most sm s a b c d w' hsm hs ((hb.cell (block_lt_of_cell h1)).trans h1) ((hb.cell (block_lt_of_cell h2)).trans h2) (h3.below hb h3.lt) ((hb.cell (block_lt_of_cell h4)).trans h4)).mono ?_
  rintro e w'' ⟨he, n, rfl⟩
  exact ⟨he, below_drawn (Below.refl _ _) n⟩

set_option maxRecDepth 100000 in
set_option maxHeartbeats 1000000 in
theorem letter_any (s : ByteArray) (w : World) (hs : s.size ≤ 1048576) :
    Calls Tryz.prog 133 #[.string s] w fun e w' => e = .returned (.bool (ofB 1 4 1 s.data.toList)) ∧ Below w.heap.size w w' := by
  have HO := Lib.hid (of_any 1 4 1 w)
  obtain ⟨r, hr⟩ : ∃ r, ofB 1 4 1 s.data.toList = r := ⟨_, rfl⟩
  rw [hr]
  have HR := Lib.hid hr
  clear hr
  go_enter Tryz.func133, Tryz.ntmps133
  go_wp2_with fail
  refine HO.out.mono ?_
  rintro e w1 ⟨⟨v, rfl, hv⟩, hb1⟩
  obtain ⟨a, b, c, d, rfl, hc⟩ := ofv_any hv s (by decide) hs
  rw [HR.out] at hc
  have HC := Lib.hid (hc w1 (Below.refl _ _))
  have HB := Lib.hid hb1
  clear hc hv hb1 HO
  go_wp2_with fail
  refine HC.out.mono ?_
  rintro e w2 ⟨rfl, hb2⟩
  have HB2 := Lib.hid (HB.out.trans (hb2.mono HB.out.size))
  clear hb2 HB
  go_wp2_with fail
  go_ret
  exact ⟨rfl, HB2.out⟩

theorem below_undrew {w w' : World} (h : Below w.drew.heap.size w.drew w') : Below w.heap.size w w' := (Below.refl _ w).drew.trans h
def setB (l : List UInt8) : Bool := ofB 1 30 15 l && ofB 1 1 1 (l.take 1)
set_option maxRecDepth 100000 in
set_option maxHeartbeats 1000000 in
theorem set_any (s : ByteArray) (w : World) (hs : s.size ≤ 1048576) :
    Calls Tryz.prog 65 #[.string s] w fun e w' => e = .returned (.bool (setB s.data.toList)) ∧ Below w.heap.size w w' := by
  have HO := Lib.hid (show ∀ W, Calls Tryz.prog 115 #[.int .i64 1, .int .i64 30, .int .u8 15] W fun e w' => (∃ v, e = .returned v ∧ IsOf w' v 1 30 15) ∧ Below W.heap.size W w' from fun W => of_any 1 30 15 W)
  have HO2 := Lib.hid (show ∀ W, Calls Tryz.prog 115 #[.int .i64 1, .int .i64 1, .int .u8 1] W fun e w' => (∃ v, e = .returned v ∧ IsOf w' v 1 1 1) ∧ Below W.heap.size W w' from fun W => of_any 1 1 1 W)
  obtain ⟨r, hr⟩ : ∃ r, ofB 1 30 15 s.data.toList = r := ⟨_, rfl⟩
  have HR := Lib.hid hr
  cases r with
  | false =>
    have HS := Lib.hid (show setB s.data.toList = false by rw [setB, hr]; rfl)
    clear hr
    go_enter Tryz.func65, Tryz.ntmps65
    go_wp2_with fail
    first
      | (go_region_with (first
          | ((go_at_call 115; (with_reducible refine (HO.out _).mono ?_); rintro e w1 ⟨⟨v, rfl, hv⟩, hb1⟩; obtain ⟨a, b, c, d, rfl, hc⟩ := ofv_any hv s (by decide) hs; rw [HR.out] at hc; have HC := Lib.hid hc; have HB := Lib.hid hb1; clear hv hc hb1))
          | ((go_at_call 150; refine (HC.out _ (by exact Below.refl _ _)).mono ?_; rintro e w2 ⟨rfl, hb2⟩; have HB2 := Lib.hid (HB.out.trans (hb2.mono HB.out.size)); clear hb2))))
      | fail
    all_goals
      go_wp2_with fail
      go_ret
      exact ⟨by rw [HS.out]; rfl, below_undrew HB2.out⟩
  | true =>
    have hl : 1 ≤ s.size := by
      have h := hr
      simp only [ofB, Bool.and_eq_true, decide_eq_true_eq] at h
      have := h.1.1
      simpa using this
    have hli : (1 : Int) ≤ (s.size : Int) := by omega
    obtain ⟨r, hr2⟩ : ∃ r, ofB 1 1 1 (s.data.toList.take 1) = r := ⟨_, rfl⟩
    have HS := Lib.hid (show setB s.data.toList = r by rw [setB, hr, hr2]; rfl)
    have HR2 := Lib.hid (show ofB 1 1 1 (s.extract 0 1).data.toList = r by rw [list_upto]; exact hr2)
    clear hr hr2
    go_enter Tryz.func65, Tryz.ntmps65
    go_wp2_with fail
    first
      | (go_region_held3 (fun _ => True) (trivial) (first
          | ((go_at_call 115; (with_reducible refine (HO.out _).mono ?_); rintro e w1 ⟨⟨v, rfl, hv⟩, hb1⟩; obtain ⟨a, b, c, d, rfl, hc⟩ := ofv_any hv s (by decide) hs; rw [HR.out] at hc; have HC := Lib.hid hc; have HB := Lib.hid hb1; clear hv hc hb1))
          | ((go_at_call 115; (with_reducible refine (HO2.out _).mono ?_); rintro e w3 ⟨⟨v, rfl, hv⟩, hb3⟩; obtain ⟨a2, b2, c2, d2, rfl, hc⟩ := ofv_any hv (s.extract 0 1) (by decide) (size_part _ _ _ _ hs); rw [HR2.out] at hc; have HC2 := Lib.hid hc; have HB3 := Lib.hid (HB2.out.trans (hb3.mono HB2.out.size)); clear hv hc hb3))
          | ((go_at_call 150; (with_reducible refine (HC.out _ ?_).mono ?_); (exact Below.refl _ _); rintro e w2 ⟨rfl, hb2⟩; have HB2 := Lib.hid (HB.out.trans (hb2.mono HB.out.size)); clear hb2))
          | ((go_at_call 150; (with_reducible refine (HC2.out _ ?_).mono ?_); (exact Below.refl _ _); rintro e w4 ⟨rfl, hb4⟩; have HB4 := Lib.hid (HB3.out.trans (hb4.mono HB3.out.size)); clear hb4))))
      | fail
    all_goals
      go_wp2_with fail
      go_ret
      exact ⟨by rw [HS.out]; rfl, below_undrew HB4.out⟩
end Go.Proofs.YtbdmieelokmhiaaGreatDoor
