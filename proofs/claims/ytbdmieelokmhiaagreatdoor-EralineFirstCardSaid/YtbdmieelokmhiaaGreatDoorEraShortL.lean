/-
  The law EralineShortest: what the call returns.
-/
import Derived.Test.YtbdmieelokmhiaaGreatDoorEraMade3
import Derived.Test.YtbdmieelokmhiaaGreatDoorWords
import Derived.ArgAppend
set_option linter.unusedVariables false
namespace Go.Proofs.YtbdmieelokmhiaaGreatDoor
open Go.RowKit

theorem own_below {B : Nat} {e : TypeId} {k : Nat} {v : Value} {n : Nat} {xs : List Value} {w w' : World} (h : w.ownsRow B e k v n xs) (hb : Below w.heap.size w w') : w'.ownsRow B e k v n xs :=
  h.kept (row := none) ⟨hb.os, hb.tape, hb.output, hb.size, fun j hj _ => hb.block j hj⟩ (by cases hv : v.ownBlock <;> simp)
theorem own_arg {B : Nat} {W : World} {g n cap : Nat} {ls : List (List UInt8)} (h : W.ownsRow B 9 1 (.slice (some ⟨g, 0, none⟩) n cap) n (strV ls)) : StrArg W (some ⟨g, 0, none⟩) ls :=
  ⟨fun h0 => by
    rcases h.2 with ⟨h1, _⟩ | ⟨g', cap', cur, h1, hg, hh, hnc, _⟩
    · cases h1
    · injection h1 with h2
      injection h2 with h2
      injection h2 with h2
      subst h2
      exact ⟨g, 0, rfl, StrRow.own h (Array.getElem?_eq_some_iff.1 hh).1⟩⟩
theorem StrRow.take {w : World} {b o : Nat} {ls : List (List UInt8)} (h : StrRow w b o ls) (m : Nat) : StrRow w b o (ls.take m) :=
  ⟨h.lt, fun j l hl => h.at_ j l (by rw [List.getElem?_take] at hl; split at hl; exact hl; cases hl)⟩

theorem StrArg.take {w : World} {A : Option Addr} {ls : List (List UInt8)} (h : StrArg w A ls) (m : Nat) : StrArg w A (ls.take m) :=
  ⟨fun h0 => by
    obtain ⟨b, o, e, hr⟩ := h.row (fun h => h0 (by rw [h]; simp))
    exact ⟨b, o, e, hr.take m⟩⟩

theorem Blk.grown {w w' : World} {row : Option Nat} {b : Nat} {t : TypeId} {cs : Array Value} (h : Blk w b t cs) (hg : w.grownBy w' row) (hne : some b ≠ row) : Blk w' b t cs := (hg.block b h.lt hne).trans h
theorem cell_one_new (w : World) (v : Value) (t : TypeId) (j : Nat) (u : Value) (h : [v][j]? = some u) : (w.alloc (.cells #[v] t)).cell? ((⟨w.heap.size, 0, none⟩ : Addr).add j) = some u := by
  cases j with
  | zero => cases h; exact (Blk.new' w t #[v] rfl).cell_ rfl
  | succ j => cases h
theorem off_pos' (x : Int) : 0 < (offTx x).length := by
  unfold offTx
  obtain ⟨c, hc, _⟩ := off_last (n := x.natAbs)
  cases ho : offT x.natAbs with
  | nil => rw [ho] at hc; cases hc
  | cons a l => simp; omega
structure SSt (w : World) (gX gL : Nat) (C : Array Value) (W : World) : Prop where
  era : Blk W gX 31 C
  tab : Blk W gL 9 #[.string ⟨#[74, 97, 110]⟩, .string ⟨#[49]⟩, .string ⟨#[48, 58, 48, 48]⟩]
  old : Below w.heap.size w W
theorem SSt.below {w W W' : World} {gX gL : Nat} {C : Array Value} (h : SSt w gX gL C W) (hb : Below W.heap.size W W') : SSt w gX gL C W' :=
  ⟨h.era.below hb h.era.lt, h.tab.below hb h.tab.lt, h.old.trans (hb.mono h.old.size)⟩
theorem SSt.more {w W : World} {gX gL : Nat} {C : Array Value} (h : SSt w gX gL C W) (j : Nat) (hj : j < 3) : W.cell? ⟨gL, j, none⟩ = some (.string ⟨(restF.getD j []).toArray⟩) := by
  refine h.tab.cell_ ?_
  rcases (by omega : j = 0 ∨ j = 1 ∨ j = 2) with rfl | rfl | rfl <;> rfl

set_option maxRecDepth 100000 in
set_option maxHeartbeats 2000000 in
theorem eshort_walk (D : Array Value) (o n r q L : Nat) (off kd sv : Int) (sn sf : ByteArray) (is : Bool) (y m d1 d2 d3 h1 h2 : Int) (T : ByteArray) (fs ful : List (List UInt8)) (w : World) (hD : (Tryz.prog.info? 43).map (·.size) = some D.size) (ho : o < 256)
    (hn : fs.length = n) (hn3 : 3 ≤ n) (hn7 : n ≤ 7) (hr : o % n = r) (hq : q + 1 + r = n) (hT0 : T.size ≠ 0) (hoff : is = false → n = 3) (hon : is = true → n = 4 + L) (hL : L ≤ 3) (h7 : ful.length = 7) (hful : is = true → fs = ful.take (4 + L))
    (Hq : Hid (∀ j, j < 3 - L → strV (ful.take (4 + L + j)) ++ [.string ⟨(restF.getD (L + j) []).toArray⟩] = strV (ful.take (4 + L + j + 1))))
    (HM : Hid (∀ W, Calls Tryz.prog 15 #[.agg D] W fun e w' => e = .returned (.agg #[.int .i64 off, .int .i64 kd, .int .i64 sv, .string sn, .string sf, .bool is, .int .i64 y, .int .i64 m, .int .i64 d1, .int .i64 d2, .int .i64 d3, .int .i64 h1, .int .i64 h2]) ∧ Below W.heap.size W w'))
    (HP : Hid (∀ W, Below w.heap.size w W → Calls Tryz.prog 13 #[.agg #[.int .i64 off, .int .i64 kd, .int .i64 sv, .string sn, .string sf, .bool is, .int .i64 y, .int .i64 m, .int .i64 d1, .int .i64 d2, .int .i64 d3, .int .i64 h1, .int .i64 h2]] W fun e w' => e = .returned (.tuple #[.string T, .int .i64 0]) ∧ Below W.heap.size W w'))
    (HS : Hid (∀ W, Below w.heap.size w W → Calls Tryz.prog 16 #[.string T, .string ⟨#[32]⟩] W fun e w' => (∃ g, e = .returned (.slice (some ⟨g, 0, none⟩) n n) ∧ W.heap.size ≤ g ∧ Hid (w'.ownsRow w.heap.size 9 1 (.slice (some ⟨g, 0, none⟩) n n) n (strV fs))) ∧ Below W.heap.size W w'))
    (HPs : Hid (∀ W A c, Below w.heap.size w W → StrArg W A (fs.take q) → Calls Tryz.prog 11 #[.slice A q c] W fun e w' => (∃ (off' kd' sv' : Int) (sn' sf' : ByteArray) (is' : Bool) (y' m' d1' d2' d3' h1' h2' x : Int), e = .returned (.tuple #[.agg #[.int .i64 off', .int .i64 kd', .int .i64 sv', .string sn', .string sf', .bool is', .int .i64 y', .int .i64 m', .int .i64 d1', .int .i64 d2', .int .i64 d3', .int .i64 h1', .int .i64 h2'], .int .i64 x]) ∧
        Hid (x = 0 → off' = off → kd' = kd → sv' = sv → sn'.toList = sn.toList → sf'.toList = sf.toList → is' = is → y' = y → m' = m → d1' = d1 → d2' = d2 → d3' = d3 → h1' = h1 → h2' = h2 → False)) ∧ Below W.heap.size W w'))
    (HPl : Hid (∀ W A c k, is = true → 4 + L ≤ k → k ≤ 7 → Below w.heap.size w W → StrArg W A (ful.take k) → Calls Tryz.prog 11 #[.slice A k c] W fun e w' => e = .returned (.tuple #[.agg #[.int .i64 off, .int .i64 kd, .int .i64 sv, .string sn, .string sf, .bool is, .int .i64 y, .int .i64 m, .int .i64 d1, .int .i64 d2, .int .i64 d3, .int .i64 h1, .int .i64 h2], .int .i64 0]) ∧ Below W.heap.size W w'))
    (HPm : Hid (∀ W A c, is = true → Below w.heap.size w W → StrArg W A (ful ++ [[120]]) → Calls Tryz.prog 11 #[.slice A 8 c] W fun e w' => e = .returned (.tuple #[.agg #[.int .i64 0, .int .i64 0, .int .i64 0, .string ⟨#[]⟩, .string ⟨#[]⟩, .bool false, .int .i64 0, .int .i64 0, .int .i64 0, .int .i64 0, .int .i64 0, .int .i64 0, .int .i64 0], .int .i64 5]) ∧ Below W.heap.size W w'))
    (HW : Hid (∀ W, Below w.heap.size w W → Calls Tryz.prog 10 #[] W fun e w' => e = .returned (.bool true) ∧ Below W.heap.size W w')) :
    Calls Tryz.prog 7 #[.agg D, .int .u8 (o : Int)] w fun e w' => e = .returned (.bool true) ∧ Below w.heap.size w w' := by
  obtain ⟨i0, hi, hz0, hz1, hz2⟩ := info_parts infoStr
  go_enter Tryz.func7, Tryz.ntmps7
  go_wp2_with (first | (refine wpList_load_row rfl 43 (.tmp 2) rfl w.heap.size rfl 43 D (0, 0) _ (Blk.new _ _ _) Tryz.underlying43 rfl hD ?_) | fail)
  refine (HM.out _).mono ?_
  rintro e w1 ⟨rfl, hb1⟩
  have HX1 := Lib.hid (show Blk (w1.alloc (.cells #[.int .i64 off, .int .i64 kd, .int .i64 sv, .string sn, .string sf, .bool is, .int .i64 y, .int .i64 m, .int .i64 d1, .int .i64 d2, .int .i64 d3, .int .i64 h1, .int .i64 h2] 31)) w1.heap.size 31 #[.int .i64 off, .int .i64 kd, .int .i64 sv, .string sn, .string sf, .bool is, .int .i64 y, .int .i64 m, .int .i64 d1, .int .i64 d2, .int .i64 d3, .int .i64 h1, .int .i64 h2] ∧ Below w.heap.size w (w1.alloc (.cells #[.int .i64 off, .int .i64 kd, .int .i64 sv, .string sn, .string sf, .bool is, .int .i64 y, .int .i64 m, .int .i64 d1, .int .i64 d2, .int .i64 d3, .int .i64 h1, .int .i64 h2] 31)) from
    ⟨Blk.new' _ _ _ rfl, rbelow_alloc (((Below.refl _ _).alloc (Nat.le_refl _) _).trans (hb1.mono (by simp))) _⟩)
  clear hb1 HM hD
  go_upto_region 2 with fail
  generalize w1.alloc (.cells #[.int .i64 off, .int .i64 kd, .int .i64 sv, .string sn, .string sf, .bool is, .int .i64 y, .int .i64 m, .int .i64 d1, .int .i64 d2, .int .i64 d3, .int .i64 h1, .int .i64 h2] 31) = w2 at *
  generalize w1.heap.size = gX at *
  go_wp2_with (first | (refine wpList_load_row rfl 31 (.tmp 5) rfl gX rfl 31 #[.int .i64 off, .int .i64 kd, .int .i64 sv, .string sn, .string sf, .bool is, .int .i64 y, .int .i64 m, .int .i64 d1, .int .i64 d2, .int .i64 d3, .int .i64 h1, .int .i64 h2] (0, 0) _ HX1.out.1 Tryz.underlying31 rfl infoEra ?_) | fail)
  refine (HP.out _ HX1.out.2).mono ?_
  rintro e w3 ⟨rfl, hb3⟩
  have HX3 := Lib.hid (And.intro (HX1.out.1.below hb3 HX1.out.1.lt) (HX1.out.2.trans (hb3.mono HX1.out.2.size)))
  clear hb3 HX1 HP
  have hTe : (T.toList == ([] : List UInt8)) = false := str_ne (fun h => hT0 (by show T.data.toList.length = 0; rw [h]; rfl))
  go_wp2_with fail
  refine (HS.out _ HX3.out.2).mono ?_
  rintro e w4 ⟨⟨g, rfl, hg, HO⟩, hb4⟩
  have HG := Lib.hid (show gX ≠ g from by have := HX3.out.1.lt; omega)
  clear hg
  have HX4 := Lib.hid (And.intro (HX3.out.1.below hb4 HX3.out.1.lt) (HX3.out.2.trans (hb4.mono HX3.out.2.size)))
  clear hb4 HX3 HS hTe
  have hnI3 : ¬ (n : Int) < 3 := by omega
  have hnI7 : ¬ 7 < (n : Int) := by omega
  have hnI0 : ¬ (n : Int) = 0 := by omega
  have hrI : (o : Int).tmod (n : Int) = (r : Int) := by rw [Int.tmod_eq_emod_of_nonneg (by omega), ← hr]; rfl
  have hrE : (o : Int) % (n : Int) = (r : Int) := by rw [← hr]; rfl
  have hqI : (n : Int) - (1 + (r : Int)) = (q : Int) := by omega
  have hqn : (q : Int) ≤ (n : Int) := by omega
  have hq0 : (0 : Int) ≤ (q : Int) := by omega
  have HSt := Lib.hid (And.intro hn (And.intro hr (And.intro hq (And.intro hoff (And.intro hon hful)))))
  clear hn hr hq hoff hon hful
  go_wp2_with fail
  refine (HPs.out _ _ _ HX4.out.2 ((own_arg HO.out).take q)).mono ?_
  rintro e w5 ⟨⟨off', kd', sv', sn', sf', is', y', m', d1', d2', d3', h1', h2', x, rfl, HNE⟩, hb5⟩
  have HX6 := Lib.hid (show Blk (w5.alloc (.cells #[.int .i64 off', .int .i64 kd', .int .i64 sv', .string sn', .string sf', .bool is', .int .i64 y', .int .i64 m', .int .i64 d1', .int .i64 d2', .int .i64 d3', .int .i64 h1', .int .i64 h2'] 31)) gX 31 #[.int .i64 off, .int .i64 kd, .int .i64 sv, .string sn, .string sf, .bool is, .int .i64 y, .int .i64 m, .int .i64 d1, .int .i64 d2, .int .i64 d3, .int .i64 h1, .int .i64 h2] ∧ Blk (w5.alloc (.cells #[.int .i64 off', .int .i64 kd', .int .i64 sv', .string sn', .string sf', .bool is', .int .i64 y', .int .i64 m', .int .i64 d1', .int .i64 d2', .int .i64 d3', .int .i64 h1', .int .i64 h2'] 31)) w5.heap.size 31 #[.int .i64 off', .int .i64 kd', .int .i64 sv', .string sn', .string sf', .bool is', .int .i64 y', .int .i64 m', .int .i64 d1', .int .i64 d2', .int .i64 d3', .int .i64 h1', .int .i64 h2'] ∧ (w5.alloc (.cells #[.int .i64 off', .int .i64 kd', .int .i64 sv', .string sn', .string sf', .bool is', .int .i64 y', .int .i64 m', .int .i64 d1', .int .i64 d2', .int .i64 d3', .int .i64 h1', .int .i64 h2'] 31)).ownsRow w.heap.size 9 1 (.slice (some ⟨g, 0, none⟩) n n) n (strV fs) ∧ Below w.heap.size w (w5.alloc (.cells #[.int .i64 off', .int .i64 kd', .int .i64 sv', .string sn', .string sf', .bool is', .int .i64 y', .int .i64 m', .int .i64 d1', .int .i64 d2', .int .i64 d3', .int .i64 h1', .int .i64 h2'] 31)) from
    ⟨(HX4.out.1.below hb5 HX4.out.1.lt).alloc _, Blk.new' _ _ _ rfl, (own_below HO.out hb5).alloc _, rbelow_alloc (HX4.out.2.trans (hb5.mono HX4.out.2.size)) _⟩)
  clear hb5 HX4 HO HPs hnI3 hnI7 hnI0 hrI hrE hqI hqn hq0
  go_upto_region 10 with fail
  generalize w5.alloc (.cells #[.int .i64 off', .int .i64 kd', .int .i64 sv', .string sn', .string sf', .bool is', .int .i64 y', .int .i64 m', .int .i64 d1', .int .i64 d2', .int .i64 d3', .int .i64 h1', .int .i64 h2'] 31) = w6 at *
  generalize w5.heap.size = gY at *
  have u0 : w6.cell? ⟨gX, 0, none⟩ = some (.int .i64 off) := HX6.out.1.cell_ rfl
  have u1 : w6.cell? ⟨gX, 1, none⟩ = some (.int .i64 kd) := HX6.out.1.cell_ rfl
  have u2 : w6.cell? ⟨gX, 2, none⟩ = some (.int .i64 sv) := HX6.out.1.cell_ rfl
  have u3 : w6.cell? ⟨gX, 3, none⟩ = some (.string sn) := HX6.out.1.cell_ rfl
  have u4 : w6.cell? ⟨gX, 4, none⟩ = some (.string sf) := HX6.out.1.cell_ rfl
  have u5 : w6.cell? ⟨gX, 5, none⟩ = some (.bool is) := HX6.out.1.cell_ rfl
  have u6 : w6.cell? ⟨gX, 6, none⟩ = some (.int .i64 y) := HX6.out.1.cell_ rfl
  have u7 : w6.cell? ⟨gX, 7, none⟩ = some (.int .i64 m) := HX6.out.1.cell_ rfl
  have u8 : w6.cell? ⟨gX, 8, none⟩ = some (.int .i64 d1) := HX6.out.1.cell_ rfl
  have u9 : w6.cell? ⟨gX, 9, none⟩ = some (.int .i64 d2) := HX6.out.1.cell_ rfl
  have u10 : w6.cell? ⟨gX, 10, none⟩ = some (.int .i64 d3) := HX6.out.1.cell_ rfl
  have u11 : w6.cell? ⟨gX, 11, none⟩ = some (.int .i64 h1) := HX6.out.1.cell_ rfl
  have u12 : w6.cell? ⟨gX, 12, none⟩ = some (.int .i64 h2) := HX6.out.1.cell_ rfl
  have v0 : w6.cell? ⟨gY, 0, none⟩ = some (.int .i64 off') := HX6.out.2.1.cell_ rfl
  have v1 : w6.cell? ⟨gY, 1, none⟩ = some (.int .i64 kd') := HX6.out.2.1.cell_ rfl
  have v2 : w6.cell? ⟨gY, 2, none⟩ = some (.int .i64 sv') := HX6.out.2.1.cell_ rfl
  have v3 : w6.cell? ⟨gY, 3, none⟩ = some (.string sn') := HX6.out.2.1.cell_ rfl
  have v4 : w6.cell? ⟨gY, 4, none⟩ = some (.string sf') := HX6.out.2.1.cell_ rfl
  have v5 : w6.cell? ⟨gY, 5, none⟩ = some (.bool is') := HX6.out.2.1.cell_ rfl
  have v6 : w6.cell? ⟨gY, 6, none⟩ = some (.int .i64 y') := HX6.out.2.1.cell_ rfl
  have v7 : w6.cell? ⟨gY, 7, none⟩ = some (.int .i64 m') := HX6.out.2.1.cell_ rfl
  have v8 : w6.cell? ⟨gY, 8, none⟩ = some (.int .i64 d1') := HX6.out.2.1.cell_ rfl
  have v9 : w6.cell? ⟨gY, 9, none⟩ = some (.int .i64 d2') := HX6.out.2.1.cell_ rfl
  have v10 : w6.cell? ⟨gY, 10, none⟩ = some (.int .i64 d3') := HX6.out.2.1.cell_ rfl
  have v11 : w6.cell? ⟨gY, 11, none⟩ = some (.int .i64 h1') := HX6.out.2.1.cell_ rfl
  have v12 : w6.cell? ⟨gY, 12, none⟩ = some (.int .i64 h2') := HX6.out.2.1.cell_ rfl
  go_cut [63] (fun s63 wx => s63 = .bool false ∧ w6 = wx)
  case first =>
    by_cases hx : x = 0
    · subst hx
      by_cases e0 : off' = off
      case neg =>
        have f1 : (off' == off) = false := beq_eq_false_iff_ne.2 e0
        clear HNE
        go_wp2_with fail
        go_meet
        first | exact ⟨rfl, rfl⟩ | exact ⟨rfl, trivial⟩
      subst e0
      by_cases e1 : kd' = kd
      case neg =>
        have f1 : (kd' == kd) = false := beq_eq_false_iff_ne.2 e1
        clear HNE
        go_wp2_with fail
        go_meet
        first | exact ⟨rfl, rfl⟩ | exact ⟨rfl, trivial⟩
      subst e1
      by_cases e2 : sv' = sv
      case neg =>
        have f1 : (sv' == sv) = false := beq_eq_false_iff_ne.2 e2
        clear HNE
        go_wp2_with fail
        go_meet
        first | exact ⟨rfl, rfl⟩ | exact ⟨rfl, trivial⟩
      subst e2
      by_cases e3 : sn'.toList = sn.toList
      case neg =>
        have f1 := Lib.hid e3; have f2 : (sn'.toList == sn.toList) = false := by rw [beq_eq_false_iff_ne]; exact e3
        clear HNE
        go_wp2_with fail
        go_meet
        first | exact ⟨rfl, rfl⟩ | exact ⟨rfl, trivial⟩
      obtain rfl : sn' = sn := by rw [Lib.toList_data, Lib.toList_data] at e3; exact ByteArray.ext (Array.ext' e3)
      by_cases e4 : sf'.toList = sf.toList
      case neg =>
        have f1 := Lib.hid e4; have f2 : (sf'.toList == sf.toList) = false := by rw [beq_eq_false_iff_ne]; exact e4
        clear HNE
        go_wp2_with fail
        go_meet
        first | exact ⟨rfl, rfl⟩ | exact ⟨rfl, trivial⟩
      obtain rfl : sf' = sf := by rw [Lib.toList_data, Lib.toList_data] at e4; exact ByteArray.ext (Array.ext' e4)
      by_cases e5 : is' = is
      case neg =>
        have f1 : (is' == is) = false := beq_eq_false_iff_ne.2 e5
        clear HNE
        go_wp2_with fail
        go_meet
        first | exact ⟨rfl, rfl⟩ | exact ⟨rfl, trivial⟩
      subst e5
      by_cases e6 : y' = y
      case neg =>
        have f1 : (y' == y) = false := beq_eq_false_iff_ne.2 e6
        clear HNE
        go_wp2_with fail
        go_meet
        first | exact ⟨rfl, rfl⟩ | exact ⟨rfl, trivial⟩
      subst e6
      by_cases e7 : m' = m
      case neg =>
        have f1 : (m' == m) = false := beq_eq_false_iff_ne.2 e7
        clear HNE
        go_wp2_with fail
        go_meet
        first | exact ⟨rfl, rfl⟩ | exact ⟨rfl, trivial⟩
      subst e7
      by_cases e8 : d1' = d1
      case neg =>
        have f1 : (d1' == d1) = false := beq_eq_false_iff_ne.2 e8
        clear HNE
        go_wp2_with fail
        go_meet
        first | exact ⟨rfl, rfl⟩ | exact ⟨rfl, trivial⟩
      subst e8
      by_cases e9 : d2' = d2
      case neg =>
        have f1 : (d2' == d2) = false := beq_eq_false_iff_ne.2 e9
        clear HNE
        go_wp2_with fail
        go_meet
        first | exact ⟨rfl, rfl⟩ | exact ⟨rfl, trivial⟩
      subst e9
      by_cases e10 : d3' = d3
      case neg =>
        have f1 : (d3' == d3) = false := beq_eq_false_iff_ne.2 e10
        clear HNE
        go_wp2_with fail
        go_meet
        first | exact ⟨rfl, rfl⟩ | exact ⟨rfl, trivial⟩
      subst e10
      by_cases e11 : h1' = h1
      case neg =>
        have f1 : (h1' == h1) = false := beq_eq_false_iff_ne.2 e11
        clear HNE
        go_wp2_with fail
        go_meet
        first | exact ⟨rfl, rfl⟩ | exact ⟨rfl, trivial⟩
      subst e11
      by_cases e12 : h2' = h2
      case neg =>
        have f1 : (h2' == h2) = false := beq_eq_false_iff_ne.2 e12
        clear HNE
        go_wp2_with fail
        go_meet
        first | exact ⟨rfl, rfl⟩ | exact ⟨rfl, trivial⟩
      subst e12
      exact (HNE.out rfl rfl rfl rfl rfl rfl rfl rfl rfl rfl rfl rfl rfl rfl).elim
    · have hx0 : (x == 0) = false := beq_eq_false_iff_ne.2 hx
      clear hx HNE
      go_wp2_with fail
      go_meet
      first | exact ⟨rfl, rfl⟩ | exact ⟨rfl, trivial⟩
  case rest =>
    obtain ⟨rfl, rfl⟩ := hcut
    clear v0 v1 v2 v3 v4 v5 v6 v7 v8 v9 v10 v11 v12 HNE
    cases is
    case false =>
      obtain rfl : n = 3 := HSt.out.2.2.2.1 rfl
      go_wp2_with fail
      refine (HW.out _ HX6.out.2.2.2).mono ?_
      rintro e w7 ⟨rfl, hb7⟩
      have HZ := Lib.hid (HX6.out.2.2.2.trans (hb7.mono HX6.out.2.2.2.size))
      clear HX6 hb7 u0 u1 u2 u3 u4 u5 u6 u7 u8 u9 u10 u11 u12
      go_wp2_with fail
      go_ret
      exact ⟨rfl, HZ.out⟩
    obtain ⟨hn, hf⟩ : n = 4 + L ∧ fs = ful.take (4 + L) := ⟨HSt.out.2.2.2.2.1 rfl, HSt.out.2.2.2.2.2 rfl⟩
    subst hn
    have HO6 := Lib.hid (show w6.ownsRow w.heap.size 9 1 (.slice (some ⟨g, 0, none⟩) (4 + L) (4 + L)) (4 + L) (strV (ful.take (4 + L))) from hf ▸ HX6.out.2.2.1)
    have HX7 := Lib.hid (And.intro HX6.out.1 HX6.out.2.2.2)
    clear HX6 HSt hf hn3 hn7
    go_upto_region 14 with fail
    clear u0 u1 u2 u3 u4 u5 u6 u7 u8 u9 u10 u11 u12
    have hL0 : ¬ (L : Int) < 0 := by omega
    have hL3 : ¬ 3 < (L : Int) := by omega
    have hLm : (L : Int) ≤ 3 := by omega
    rcases (by omega : L = 3 ∨ L < 3) with h3 | h3
    case inl =>
      subst h3
      clear hL0 hL3 hLm
      have HS8 := Lib.hid (show SSt w gX w6.heap.size #[.int .i64 off, .int .i64 kd, .int .i64 sv, .string sn, .string sf, .bool true, .int .i64 y, .int .i64 m, .int .i64 d1, .int .i64 d2, .int .i64 d3, .int .i64 h1, .int .i64 h2] (w6.alloc (.cells #[.string ⟨#[74, 97, 110]⟩, .string ⟨#[49]⟩, .string ⟨#[48, 58, 48, 48]⟩] 9)) ∧ (w6.alloc (.cells #[.string ⟨#[74, 97, 110]⟩, .string ⟨#[49]⟩, .string ⟨#[48, 58, 48, 48]⟩] 9)).ownsRow w.heap.size 9 1 (.slice (some ⟨g, 0, none⟩) (4 + 3) (4 + 3)) (4 + 3) (strV (ful.take (4 + 3))) from
        ⟨⟨HX7.out.1.alloc _, Blk.new' _ _ _ rfl, rbelow_alloc HX7.out.2 _⟩, HO6.out.alloc _⟩)
      have HNe := Lib.hid (show gX ≠ g ∧ w6.heap.size ≠ g from ⟨HG.out, by
        have := (HO6.out.lt g rfl).2
        omega⟩)
      clear HX7 HO6 HG
      go_wp2_with fail
      generalize w6.alloc (.cells #[.string ⟨#[74, 97, 110]⟩, .string ⟨#[49]⟩, .string ⟨#[48, 58, 48, 48]⟩] 9) = w7 at *
      generalize w6.heap.size = gL at *
      go_loopw [8, 82] (fun v i wr => ∃ (j n g' cap : Nat), i = .int .i64 (j : Int) ∧ v = .slice (some ⟨g', 0, none⟩) n cap ∧ Hid (n = 4 + 3 + j ∧ n ≤ 7) ∧ Hid (gX ≠ g' ∧ gL ≠ g') ∧ Hid (wr.ownsRow w.heap.size 9 1 (.slice (some ⟨g', 0, none⟩) n cap) n (strV (ful.take n)) ∧ SSt w gX gL #[.int .i64 off, .int .i64 kd, .int .i64 sv, .string sn, .string sf, .bool true, .int .i64 y, .int .i64 m, .int .i64 d1, .int .i64 d2, .int .i64 d3, .int .i64 h1, .int .i64 h2] wr)) (fun _ i _ => 3 - (intOf i).toNat)
      case atStart => exact ⟨0, 4 + 3, g, 4 + 3, rfl, rfl, Lib.hid ⟨rfl, by omega⟩, HNe, Lib.hid ⟨HS8.out.2, HS8.out.1⟩⟩
      case round =>
        clear HS8 HNe
        obtain ⟨j, n, g', cap, rfl, rfl, HN, HNe, HI⟩ := hrel
        by_cases hlt : j < 3 - 3
        · exact absurd hlt (by omega)
        · have hj1 : ¬ (j : Int) < 3 - (3 : Int) := by omega
          have hj2 : ¬ (j : Int) + (3 : Int) < 3 := by omega
          have hj3 : ¬ (3 : Int) + (j : Int) < 3 := by omega
          obtain rfl : n = 7 := by have := HN.out; omega
          clear hlt HPl
          go_wp2_with (at_builtin; refine wpList_append_any _ rfl (.tmp 104) (.tmp 105) 22 rfl w.heap.size 9 i0 (.string ⟨#[]⟩) 1 16 Tryz.underlying22 hi hz0 hz1 hz2 rfl (by decide) _ _ _ rfl (HI.out.1.alloc _) (wr.heap.size + 1) (some ⟨wr.heap.size, 0, none⟩) 1 1 [.string ⟨#[120]⟩] rfl ?c0a ?c1a ?c2a ?c3a ?c4a ?_)
          case c0a => exact ⟨rfl, fun _ => ⟨_, rfl, by simp, cell_one_new _ _ _⟩⟩
          case c1a => first | (intro u hu; simp at hu; subst hu; rfl) | rfl
          try (case c2a => have := HN.out; unfold maxLen; omega)
          try (case c3a => have := HN.out; omega)
          try (case c4a => have := HI.out.2.old.size; simp; omega)
          intro v' wa hown' hgrow hv'
          have HI2 := Lib.hid (show wa.ownsRow w.heap.size 9 1 v' (7 + 1) (strV (ful ++ [[120]])) ∧ Below w.heap.size w wa from by
            have h := hown'
            rw [show strV (ful.take 7) ++ [.string ⟨#[120]⟩] = strV (ful ++ [[120]]) by rw [List.take_of_length_le (by omega)]; simp [strV]] at h
            exact ⟨h, below_push HI.out.2.old HI.out.2.old.size HI.out.1 hgrow⟩)
          obtain ⟨g2, cap2, rfl, hgb, hgl⟩ := HI2.out.1.form (by omega)
          clear hown' hgrow hv' HI hgb hgl HNe HN
          go_wp2_with fail
          refine (HPm.out _ _ _ (by first | trivial | rfl) HI2.out.2 (own_arg HI2.out.1)).mono ?_
          rintro e wb ⟨rfl, hbb⟩
          have HB := Lib.hid (rbelow_alloc (HI2.out.2.trans (hbb.mono HI2.out.2.size)) (.cells #[.int .i64 0, .int .i64 0, .int .i64 0, .string ⟨#[]⟩, .string ⟨#[]⟩, .bool false, .int .i64 0, .int .i64 0, .int .i64 0, .int .i64 0, .int .i64 0, .int .i64 0, .int .i64 0] 31))
          clear HI2 hbb
          go_wp2_with fail
          refine (HW.out _ HB.out).mono ?_
          rintro e wd ⟨rfl, hbd⟩
          have HZ := Lib.hid (HB.out.trans (hbd.mono HB.out.size))
          clear HB hbd
          go_wp2_with fail
          go_ret
          exact ⟨rfl, HZ.out⟩
    case inr =>
      have hmm : min (max (4 + (L : Int) - 4) 0) 3 = (L : Int) := by omega
      have h3a : ¬ 3 = L := by omega
      have h3b : ¬ L = 3 := by omega
      have h3c : 3 ≠ L := by omega
      have HS8 := Lib.hid (show SSt w gX w6.heap.size #[.int .i64 off, .int .i64 kd, .int .i64 sv, .string sn, .string sf, .bool true, .int .i64 y, .int .i64 m, .int .i64 d1, .int .i64 d2, .int .i64 d3, .int .i64 h1, .int .i64 h2] (w6.alloc (.cells #[.string ⟨#[74, 97, 110]⟩, .string ⟨#[49]⟩, .string ⟨#[48, 58, 48, 48]⟩] 9)) ∧ (w6.alloc (.cells #[.string ⟨#[74, 97, 110]⟩, .string ⟨#[49]⟩, .string ⟨#[48, 58, 48, 48]⟩] 9)).ownsRow w.heap.size 9 1 (.slice (some ⟨g, 0, none⟩) (4 + L) (4 + L)) (4 + L) (strV (ful.take (4 + L))) from
        ⟨⟨HX7.out.1.alloc _, Blk.new' _ _ _ rfl, rbelow_alloc HX7.out.2 _⟩, HO6.out.alloc _⟩)
      have HNe := Lib.hid (show gX ≠ g ∧ w6.heap.size ≠ g from ⟨HG.out, by
        have := (HO6.out.lt g rfl).2
        omega⟩)
      clear HX7 HO6 HG
      go_wp2_with fail
      generalize w6.alloc (.cells #[.string ⟨#[74, 97, 110]⟩, .string ⟨#[49]⟩, .string ⟨#[48, 58, 48, 48]⟩] 9) = w7 at *
      generalize w6.heap.size = gL at *
      go_loopw [8, 82] (fun v i wr => ∃ (j n g' cap : Nat), i = .int .i64 (j : Int) ∧ v = .slice (some ⟨g', 0, none⟩) n cap ∧ Hid (n = 4 + L + j ∧ n ≤ 7) ∧ Hid (gX ≠ g' ∧ gL ≠ g') ∧ Hid (wr.ownsRow w.heap.size 9 1 (.slice (some ⟨g', 0, none⟩) n cap) n (strV (ful.take n)) ∧ SSt w gX gL #[.int .i64 off, .int .i64 kd, .int .i64 sv, .string sn, .string sf, .bool true, .int .i64 y, .int .i64 m, .int .i64 d1, .int .i64 d2, .int .i64 d3, .int .i64 h1, .int .i64 h2] wr)) (fun _ i _ => 3 - (intOf i).toNat)
      case atStart => exact ⟨0, 4 + L, g, 4 + L, rfl, rfl, Lib.hid ⟨rfl, by omega⟩, HNe, Lib.hid ⟨HS8.out.2, HS8.out.1⟩⟩
      case round =>
        clear HS8 HNe
        obtain ⟨j, n, g', cap, rfl, rfl, HN, HNe, HI⟩ := hrel
        by_cases hlt : j < 3 - L
        · have hj1 : (j : Int) < 3 - (L : Int) := by omega
          have hj2 : (j : Int) + (L : Int) < 3 := by omega
          have hj3 : (L : Int) + (j : Int) < 3 := by omega
          have cj := HI.out.2.more (L + j) (by omega)
          obtain ⟨sj, hsj⟩ : ∃ sj : ByteArray, (⟨(restF.getD (L + j) []).toArray⟩ : ByteArray) = sj := ⟨_, rfl⟩
          rw [hsj] at cj
          have HQ := Lib.hid (show strV (ful.take n) ++ [.string sj] = strV (ful.take (n + 1)) by
            rw [HN.out.1, ← hsj]; exact Hq.out j hlt)
          clear hsj
          go_wp2_with (at_builtin; refine wpList_append_any _ rfl (.tmp 86) (.tmp 88) 22 rfl w.heap.size 9 i0 (.string ⟨#[]⟩) 1 16 Tryz.underlying22 hi hz0 hz1 hz2 rfl (by decide) _ _ _ rfl (HI.out.1.alloc _) (wr.heap.size + 1) (some ⟨wr.heap.size, 0, none⟩) 1 1 [.string sj] rfl ?c0b ?c1b ?c2b ?c3b ?c4b ?_)
          case c0b => exact ⟨rfl, fun _ => ⟨_, rfl, by simp, cell_one_new _ _ _⟩⟩
          case c1b => first | (intro u hu; simp at hu; subst hu; rfl) | rfl
          try (case c2b => have := HN.out; unfold maxLen; omega)
          try (case c3b => have := HN.out; omega)
          try (case c4b => have := HI.out.2.old.size; simp; omega)
          intro v' wa hown' hgrow hv'
          have HI2 := Lib.hid (show wa.ownsRow w.heap.size 9 1 v' (n + 1) (strV (ful.take (n + 1))) ∧ SSt w gX gL #[.int .i64 off, .int .i64 kd, .int .i64 sv, .string sn, .string sf, .bool true, .int .i64 y, .int .i64 m, .int .i64 d1, .int .i64 d2, .int .i64 d3, .int .i64 h1, .int .i64 h2] wa from by
            have h := hown'
            rw [HQ.out] at h
            have ne1 := HNe.out.1
            have ne2 := HNe.out.2
            refine ⟨h, (HI.out.2.era.alloc _).grown hgrow (by simp [Value.ownBlock]; omega), (HI.out.2.tab.alloc _).grown hgrow (by simp [Value.ownBlock]; omega), below_push HI.out.2.old HI.out.2.old.size HI.out.1 hgrow⟩)
          have HV := Lib.hid hv'
          obtain ⟨g2, cap2, rfl, hgb, hgl⟩ := HI2.out.1.form (by omega)
          have HNe2 := Lib.hid (show gX ≠ g2 ∧ gL ≠ g2 from by
            have l1 := HI.out.2.era.lt
            have l2 := HI.out.2.tab.lt
            have ne1 := HNe.out.1
            have ne2 := HNe.out.2
            rcases HV.out with h | h <;> simp [Value.ownBlock] at h <;> omega)
          clear hown' hgrow hv' HV HI HQ cj HNe hgb hgl
          go_wp2_with fail
          refine (HPl.out _ _ _ (n + 1) (by first | trivial | rfl) (by have := HN.out; omega) (by have := HN.out; omega) HI2.out.2.old (own_arg HI2.out.1)).mono ?_
          rintro e wb ⟨rfl, hbb⟩
          have HI3 := Lib.hid (show (wb.alloc (.cells #[.int .i64 off, .int .i64 kd, .int .i64 sv, .string sn, .string sf, .bool true, .int .i64 y, .int .i64 m, .int .i64 d1, .int .i64 d2, .int .i64 d3, .int .i64 h1, .int .i64 h2] 31)).ownsRow w.heap.size 9 1 (.slice (some ⟨g2, 0, none⟩) (n + 1) cap2) (n + 1) (strV (ful.take (n + 1))) ∧ SSt w gX gL #[.int .i64 off, .int .i64 kd, .int .i64 sv, .string sn, .string sf, .bool true, .int .i64 y, .int .i64 m, .int .i64 d1, .int .i64 d2, .int .i64 d3, .int .i64 h1, .int .i64 h2] (wb.alloc (.cells #[.int .i64 off, .int .i64 kd, .int .i64 sv, .string sn, .string sf, .bool true, .int .i64 y, .int .i64 m, .int .i64 d1, .int .i64 d2, .int .i64 d3, .int .i64 h1, .int .i64 h2] 31)) ∧ Blk (wb.alloc (.cells #[.int .i64 off, .int .i64 kd, .int .i64 sv, .string sn, .string sf, .bool true, .int .i64 y, .int .i64 m, .int .i64 d1, .int .i64 d2, .int .i64 d3, .int .i64 h1, .int .i64 h2] 31)) wb.heap.size 31 #[.int .i64 off, .int .i64 kd, .int .i64 sv, .string sn, .string sf, .bool true, .int .i64 y, .int .i64 m, .int .i64 d1, .int .i64 d2, .int .i64 d3, .int .i64 h1, .int .i64 h2] from
            ⟨(own_below HI2.out.1 hbb).alloc _, (HI2.out.2.below hbb).below ((Below.refl _ _).alloc (Nat.le_refl _) _), Blk.new' _ _ _ rfl⟩)
          clear hbb HI2
          go_upto_region 19 with fail
          generalize wb.alloc (.cells #[.int .i64 off, .int .i64 kd, .int .i64 sv, .string sn, .string sf, .bool true, .int .i64 y, .int .i64 m, .int .i64 d1, .int .i64 d2, .int .i64 d3, .int .i64 h1, .int .i64 h2] 31) = wc at *
          generalize wb.heap.size = gZ at *
          have u0 : wc.cell? ⟨gX, 0, none⟩ = some (.int .i64 off) := HI3.out.2.1.era.cell_ rfl
          have u1 : wc.cell? ⟨gX, 1, none⟩ = some (.int .i64 kd) := HI3.out.2.1.era.cell_ rfl
          have u2 : wc.cell? ⟨gX, 2, none⟩ = some (.int .i64 sv) := HI3.out.2.1.era.cell_ rfl
          have u3 : wc.cell? ⟨gX, 3, none⟩ = some (.string sn) := HI3.out.2.1.era.cell_ rfl
          have u4 : wc.cell? ⟨gX, 4, none⟩ = some (.string sf) := HI3.out.2.1.era.cell_ rfl
          have u5 : wc.cell? ⟨gX, 5, none⟩ = some (.bool true) := HI3.out.2.1.era.cell_ rfl
          have u6 : wc.cell? ⟨gX, 6, none⟩ = some (.int .i64 y) := HI3.out.2.1.era.cell_ rfl
          have u7 : wc.cell? ⟨gX, 7, none⟩ = some (.int .i64 m) := HI3.out.2.1.era.cell_ rfl
          have u8 : wc.cell? ⟨gX, 8, none⟩ = some (.int .i64 d1) := HI3.out.2.1.era.cell_ rfl
          have u9 : wc.cell? ⟨gX, 9, none⟩ = some (.int .i64 d2) := HI3.out.2.1.era.cell_ rfl
          have u10 : wc.cell? ⟨gX, 10, none⟩ = some (.int .i64 d3) := HI3.out.2.1.era.cell_ rfl
          have u11 : wc.cell? ⟨gX, 11, none⟩ = some (.int .i64 h1) := HI3.out.2.1.era.cell_ rfl
          have u12 : wc.cell? ⟨gX, 12, none⟩ = some (.int .i64 h2) := HI3.out.2.1.era.cell_ rfl
          have v0 : wc.cell? ⟨gZ, 0, none⟩ = some (.int .i64 off) := HI3.out.2.2.cell_ rfl
          have v1 : wc.cell? ⟨gZ, 1, none⟩ = some (.int .i64 kd) := HI3.out.2.2.cell_ rfl
          have v2 : wc.cell? ⟨gZ, 2, none⟩ = some (.int .i64 sv) := HI3.out.2.2.cell_ rfl
          have v3 : wc.cell? ⟨gZ, 3, none⟩ = some (.string sn) := HI3.out.2.2.cell_ rfl
          have v4 : wc.cell? ⟨gZ, 4, none⟩ = some (.string sf) := HI3.out.2.2.cell_ rfl
          have v5 : wc.cell? ⟨gZ, 5, none⟩ = some (.bool true) := HI3.out.2.2.cell_ rfl
          have v6 : wc.cell? ⟨gZ, 6, none⟩ = some (.int .i64 y) := HI3.out.2.2.cell_ rfl
          have v7 : wc.cell? ⟨gZ, 7, none⟩ = some (.int .i64 m) := HI3.out.2.2.cell_ rfl
          have v8 : wc.cell? ⟨gZ, 8, none⟩ = some (.int .i64 d1) := HI3.out.2.2.cell_ rfl
          have v9 : wc.cell? ⟨gZ, 9, none⟩ = some (.int .i64 d2) := HI3.out.2.2.cell_ rfl
          have v10 : wc.cell? ⟨gZ, 10, none⟩ = some (.int .i64 d3) := HI3.out.2.2.cell_ rfl
          have v11 : wc.cell? ⟨gZ, 11, none⟩ = some (.int .i64 h1) := HI3.out.2.2.cell_ rfl
          have v12 : wc.cell? ⟨gZ, 12, none⟩ = some (.int .i64 h2) := HI3.out.2.2.cell_ rfl
          go_wp2_with fail
          go_roundw
          case rel => exact ⟨j + 1, n + 1, g2, cap2, by go_num, rfl, Lib.hid (by have := HN.out; omega), HNe2, Lib.hid ⟨HI3.out.1, HI3.out.2.1⟩⟩
          case measure => simp [intOf]; omega
        · have hj1 : ¬ (j : Int) < 3 - (L : Int) := by omega
          have hj2 : ¬ (j : Int) + (L : Int) < 3 := by omega
          have hj3 : ¬ (L : Int) + (j : Int) < 3 := by omega
          obtain rfl : n = 7 := by have := HN.out; omega
          clear hlt HPl
          go_wp2_with (at_builtin; refine wpList_append_any _ rfl (.tmp 104) (.tmp 105) 22 rfl w.heap.size 9 i0 (.string ⟨#[]⟩) 1 16 Tryz.underlying22 hi hz0 hz1 hz2 rfl (by decide) _ _ _ rfl (HI.out.1.alloc _) (wr.heap.size + 1) (some ⟨wr.heap.size, 0, none⟩) 1 1 [.string ⟨#[120]⟩] rfl ?c0c ?c1c ?c2c ?c3c ?c4c ?_)
          case c0c => exact ⟨rfl, fun _ => ⟨_, rfl, by simp, cell_one_new _ _ _⟩⟩
          case c1c => first | (intro u hu; simp at hu; subst hu; rfl) | rfl
          try (case c2c => have := HN.out; unfold maxLen; omega)
          try (case c3c => have := HN.out; omega)
          try (case c4c => have := HI.out.2.old.size; simp; omega)
          intro v' wa hown' hgrow hv'
          have HI2 := Lib.hid (show wa.ownsRow w.heap.size 9 1 v' (7 + 1) (strV (ful ++ [[120]])) ∧ Below w.heap.size w wa from by
            have h := hown'
            rw [show strV (ful.take 7) ++ [.string ⟨#[120]⟩] = strV (ful ++ [[120]]) by rw [List.take_of_length_le (by omega)]; simp [strV]] at h
            exact ⟨h, below_push HI.out.2.old HI.out.2.old.size HI.out.1 hgrow⟩)
          obtain ⟨g2, cap2, rfl, hgb, hgl⟩ := HI2.out.1.form (by omega)
          clear hown' hgrow hv' HI hgb hgl HNe HN
          go_wp2_with fail
          refine (HPm.out _ _ _ (by first | trivial | rfl) HI2.out.2 (own_arg HI2.out.1)).mono ?_
          rintro e wb ⟨rfl, hbb⟩
          have HB := Lib.hid (rbelow_alloc (HI2.out.2.trans (hbb.mono HI2.out.2.size)) (.cells #[.int .i64 0, .int .i64 0, .int .i64 0, .string ⟨#[]⟩, .string ⟨#[]⟩, .bool false, .int .i64 0, .int .i64 0, .int .i64 0, .int .i64 0, .int .i64 0, .int .i64 0, .int .i64 0] 31))
          clear HI2 hbb
          go_wp2_with fail
          refine (HW.out _ HB.out).mono ?_
          rintro e wd ⟨rfl, hbd⟩
          have HZ := Lib.hid (HB.out.trans (hbd.mono HB.out.size))
          clear HB hbd
          go_wp2_with fail
          go_ret
          exact ⟨rfl, HZ.out⟩

theorem strV_snoc (l : List (List UInt8)) (a : List UInt8) : strV l ++ [.string ⟨a.toArray⟩] = strV (l ++ [a]) := by simp [strV]
theorem full_snoc {e : EraP} (h : EraRight e) (hi : e.til.is = true) (j : Nat) (h1 : lastN e.til ≤ j) (h2 : j < 3) : strV ((fullFs e).take (4 + j)) ++ [.string ⟨(restF.getD j []).toArray⟩] = strV ((fullFs e).take (4 + j + 1)) := by
  have h3 : (fullFs e)[4 + j]? = restF[j]? := by
    have := congrArg (fun l => l[0]?) (fullFs_drop h hi j h1)
    simpa using this
  have h4 : restF[j]? = some (restF.getD j []) := by
    rcases (by omega : j = 0 ∨ j = 1 ∨ j = 2) with rfl | rfl | rfl <;> rfl
  rw [strV_snoc, List.take_add_one, h3, h4]
  rfl
theorem full_len30 {e : EraP} (h : EraRight e) (hi : e.til.is = true) : ∀ a ∈ fullFs e, a.length ≤ 30 := by
  have h7 : fullFs e = eraFs e ++ (restF.drop (lastN e.til)).take (3 - lastN e.til) := by
    have := full_split h hi 3 (lastN_le _)
    rwa [List.take_of_length_le (by rw [fullFs_len]; omega)] at this
  intro a ha
  rw [h7, List.mem_append] at ha
  rcases ha with ha | ha
  · exact (era_field h a ha).2
  · have hm : a ∈ restF := List.mem_of_mem_drop (List.mem_of_mem_take ha)
    have : ∀ a ∈ restF, a.length ≤ 30 := by decide
    exact this a hm
theorem esplit_own (e : EraP) (h : EraRight e) (B : Nat) (w : World) (hM : MaxL w) (hB : B ≤ w.heap.size) : Calls Tryz.prog 16 #[.string ⟨(eraT e).toArray⟩, .string ⟨#[32]⟩] w fun r w' => (∃ g, r = .returned (.slice (some ⟨g, 0, none⟩) (eraFs e).length (eraFs e).length) ∧ w.heap.size ≤ g ∧ Hid (w'.ownsRow B 9 1 (.slice (some ⟨g, 0, none⟩) (eraFs e).length (eraFs e).length) (eraFs e).length (strV (eraFs e)))) ∧ Below w.heap.size w w' := by
  have hl := eraT_len h
  have e1 : (⟨(eraT e).toArray⟩ : ByteArray).data.toList = eraT e := by simp
  refine (split_any ⟨(eraT e).toArray⟩ w hM (by show (eraT e).toArray.size ≤ _; simp only [List.size_toArray]; omega)).mono fun r w' ⟨hr, hw⟩ => ?_
  subst hw
  rw [e1, eraT_split h] at hr ⊢
  refine ⟨⟨w.heap.size, hr, Nat.le_refl _, Lib.hid ?_⟩, (Below.refl _ _).alloc (Nat.le_refl _) _⟩
  have hn := (eraFs_len e).2
  have := World.ownsRow_lit (base := B) (e := 9) (size := 1) w (strV (eraFs e)).toArray (eraFs e).length hB (by unfold maxLen; omega) (by simp [strV])
  simpa using this
theorem eparse_on (A : Option Addr) (n c : Nat) (ls : List (List UInt8)) (R : EraP × Int) (w : World) (hT : ETabs w) (hr : StrArg w A ls) (hn : ls.length = n) (hl : ∀ l ∈ ls, l.length ≤ 30) (hm : n ≤ 100) (hR : eraR ls = R) :
    Calls Tryz.prog 11 #[.slice A n c] w fun e w' => e = .returned (.tuple #[.agg R.1.cells, .int .i64 R.2]) ∧ Below w.heap.size w w' := by
  subst hR
  exact eparse_any A n c ls w hT hr hn (fun l h => by have := hl l h; omega) (by omega)
theorem eshort_any (d : DraftE) (hd : d.Ok) (o : Nat) (ho : o < 256) (w : World) (hT : ETabs w) (hM : MaxL w) :
    Calls Tryz.prog 7 #[.agg d.cells, .int .u8 (o : Int)] w fun e w' => e = .returned (.bool true) ∧ Below w.heap.size w w' := by
  have HM := fun W => emade_any d hd W
  have hr := d.right
  have HT : ∀ W, Below w.heap.size w W → ETabs W := fun W hW => hT.below hW
  have HML : ∀ W, Below w.heap.size w W → MaxL W := fun W hW => hM.below hW
  have HW := fun W hW => eworks_any W (HT W hW) (HML W hW)
  have hD := infoED d
  generalize d.era = e at *
  have hlen := eraFs_len e
  have hT0 : (⟨(eraT e).toArray⟩ : ByteArray).size ≠ 0 := by
    have h1 := off_pos' e.off
    rw [eraT_eq]
    show (List.toArray _).size ≠ 0
    simp only [List.size_toArray, List.length_append]
    omega
  have HP := fun W hW => eprint_right e hr W (HT W hW)
  have HS := fun W (hW : Below w.heap.size w W) => esplit_own e hr w.heap.size W (HML W hW) hW.size
  have hfl : ∀ a ∈ eraFs e, a.length ≤ 30 := fun a ha => (era_field hr a ha).2
  obtain ⟨q, hq⟩ : ∃ q, q + 1 + o % (eraFs e).length = (eraFs e).length := ⟨(eraFs e).length - (1 + o % (eraFs e).length), by have := Nat.mod_lt o (show 0 < (eraFs e).length by omega); omega⟩
  have hsh := era_short hr q (by omega)
  have HPs := fun (W : World) (A : Option Addr) (c : Nat) (hW : Below w.heap.size w W) (hA : StrArg W A ((eraFs e).take q)) => eparse_on A q c ((eraFs e).take q) _ W (HT W hW) hA (by rw [List.length_take]; omega) (fun l hl => hfl l (List.mem_of_mem_take hl)) (by omega) rfl
  generalize eraR ((eraFs e).take q) = R at *
  have HPl := fun (hi : e.til.is = true) (W : World) (A : Option Addr) (c k : Nat) (h1 : 4 + lastN e.til ≤ k) (h2 : k ≤ 7) (hW : Below w.heap.size w W) (hA : StrArg W A ((fullFs e).take k)) => eparse_on A k c ((fullFs e).take k) _ W (HT W hW) hA (by rw [List.length_take, fullFs_len]; omega) (fun l hl => full_len30 hr hi l (List.mem_of_mem_take hl)) (by omega) (show eraR ((fullFs e).take k) = (e, 0) by
    obtain ⟨j, rfl⟩ : ∃ j, k = 4 + j := ⟨k - 4, by omega⟩
    exact era_long hr hi j (by omega) (by omega))
  have HPm := fun (hi : e.til.is = true) (W : World) (A : Option Addr) (c : Nat) (hW : Below w.heap.size w W) (hA : StrArg W A (fullFs e ++ [[120]])) => eparse_on A 8 c (fullFs e ++ [[120]]) _ W (HT W hW) hA (by rw [List.length_append, fullFs_len]; rfl) (fun l hl => by
    rw [List.mem_append] at hl
    rcases hl with hl | hl
    · exact full_len30 hr hi l hl
    · simp at hl; subst hl; decide) (by omega) (era_many (by rw [List.length_append, fullFs_len]; decide))
  have hq1 : e.til.is = true → (eraFs e).length = 4 + lastN e.til := fun hi => by
    rw [eraFs_take hi, List.length_take, fullFs_len]
    have := lastN_le e.til
    omega
  have hq0 : e.til.is = false → (eraFs e).length = 3 := fun hi => by
    have := until_len e.til
    rw [if_pos hi] at this
    simp [eraFs, this]
  have HQ := fun (hi : e.til.is = true) j (hj : j < 3 - lastN e.til) => full_snoc hr hi (lastN e.til + j) (by omega) (by omega)
  have hLN := lastN_le e.til
  have hft := fun (hi : e.til.is = true) => eraFs_take (e := e) hi
  have h7 := fullFs_len e
  obtain ⟨⟨off', kd', sv', set', fmt', ⟨is', y', m', ⟨d1', d2', d3'⟩, ⟨h1', h2'⟩⟩⟩, x⟩ := R
  generalize hfs : eraFs e = fs at *
  generalize fullFs e = ful at *
  generalize hT : (⟨(eraT e).toArray⟩ : ByteArray) = T at *
  generalize hLe : lastN e.til = L at *
  obtain ⟨off, kd, sv, set, fmt, ⟨is, y, m, ⟨d1, d2, d3⟩, ⟨h1, h2⟩⟩⟩ := e
  simp only at hq1 hq0 HPl HPm HQ hft
  refine eshort_walk d.cells o fs.length (o % fs.length) q (if is = true then L else 3) off kd sv ⟨set.toArray⟩ ⟨fmt.toArray⟩ is y m d1 d2 d3 h1 h2 T fs ful w hD ho rfl (by omega) (by omega) rfl hq hT0 hq0 (fun hi => by rw [if_pos hi]; exact hq1 hi) (by split <;> omega) h7 (fun hi => by rw [if_pos hi]; exact hft hi) (Lib.hid fun j hj => ?_)
    (Lib.hid HM) (Lib.hid HP) (Lib.hid HS) (Lib.hid fun W A c hW hA => (HPs W A c hW hA).mono fun r w' ⟨hr', hb⟩ => ⟨⟨off', kd', sv', ⟨set'.toArray⟩, ⟨fmt'.toArray⟩, is', y', m', d1', d2', d3', h1', h2', x, hr', Lib.hid fun e0 e1 e2 e3 e4 e5 e6 e7 e8 e9 e10 e11 e12 e13 => ?_⟩, hb⟩)
    (Lib.hid fun W A c k hi g1 g2 hW hA => HPl hi W A c k (by rw [if_pos hi] at g1; exact g1) g2 hW hA) (Lib.hid fun W A c hi hW hA => HPm hi W A c hW hA) (Lib.hid HW)
  · by_cases hi : is = true
    · rw [if_pos hi] at hj ⊢
      have := HQ hi j hj
      simpa only [Nat.add_assoc] using this
    · rw [if_neg hi] at hj; omega
  · rw [Lib.toList_data, Lib.toList_data] at e4 e5
    exact hsh (by rw [show set' = set by simpa using e4, show fmt' = fmt by simpa using e5, e0, e1, e2, e3, e6, e7, e8, e9, e10, e11, e12, e13])
end Go.Proofs.YtbdmieelokmhiaaGreatDoor
