/-
  The examples of the chapter (works) and day forms by numbers (Made).
-/
import Derived.Test.YteikhjhamjohpaaDoorDayParse
import Derived.Test.YteikhjhamjohpaaDoorDayPrint
import Derived.Outline
set_option linter.unusedVariables false
namespace Go.Proofs.YteikhjhamjohpaaDoor
open Go.RowKit

structure Tabs (w : World) : Prop where
  kinds : Kinds w
  weeks : Weeks w
  folds : Folds w
theorem Tabs.below {w w' : World} (h : Tabs w) (hb : Below w.heap.size w w') : Tabs w' := ⟨h.kinds.below hb, h.weeks.below hb, h.folds.below hb⟩

/-- the examples of the chapter -/
def exL : List (List UInt8 × (Int × Int × Int) × Int) := [([49, 53], (1, 0, 15), 0), ([108, 97, 115, 116, 83, 117, 110], (2, 0, 0), 0), ([83, 117, 110, 62, 61, 56], (3, 0, 8), 0), ([115, 117, 110, 100, 97, 121, 60, 61, 50, 53], (4, 0, 25), 0), ([76, 65, 83, 84, 109], (2, 1, 0), 0), ([48], (0, 0, 0), 5), ([48, 53], (0, 0, 0), 5), ([51, 50], (0, 0, 0), 3), ([83, 117, 110], (0, 0, 0), 5), ([], (0, 0, 0), 5), ([83, 117, 110, 61, 56], (0, 0, 0), 5), ([108, 97, 115, 116], (0, 0, 0), 8), ([108, 97, 115, 116, 83], (0, 0, 0), 8), ([62, 61, 56], (0, 0, 0), 8), ([83, 117, 110, 62, 61], (0, 0, 0), 5), ([83, 117, 110, 62, 56], (0, 0, 0), 5), ([83, 62, 61, 57, 57], (0, 0, 0), 8)]
def exRow (x : List UInt8 × (Int × Int × Int) × Int) : List Value := [.string ⟨x.1.toArray⟩, .int .i64 x.2.1.1, .int .i64 x.2.1.2.1, .int .i64 x.2.1.2.2, .int .i64 x.2.2]
def exC : Array Value := (exL.flatMap exRow).toArray
def Exs (w : World) (g : Nat) : Prop := ∀ k s a b c e, exL[k]? = some (s, (a, b, c), e) →
  w.cell? ⟨g, k * 5, none⟩ = some (.string ⟨s.toArray⟩) ∧ w.cell? ⟨g, k * 5 + 1, none⟩ = some (.int .i64 a) ∧ w.cell? ⟨g, k * 5 + 2, none⟩ = some (.int .i64 b) ∧ w.cell? ⟨g, k * 5 + 3, none⟩ = some (.int .i64 c) ∧ w.cell? ⟨g, k * 5 + 4, none⟩ = some (.int .i64 e)
theorem exs_of {w : World} {g : Nat} {t : TypeId} (h : Blk w g t exC) : Exs w g := by
  intro k s a b c e hk
  have hlt : k < 17 := (List.getElem?_eq_some_iff.1 hk).1
  rcases (by omega : k = 0 ∨ k = 1 ∨ k = 2 ∨ k = 3 ∨ k = 4 ∨ k = 5 ∨ k = 6 ∨ k = 7 ∨ k = 8 ∨ k = 9 ∨ k = 10 ∨ k = 11 ∨ k = 12 ∨ k = 13 ∨ k = 14 ∨ k = 15 ∨ k = 16) with rfl | rfl | rfl | rfl | rfl | rfl | rfl | rfl | rfl | rfl | rfl | rfl | rfl | rfl | rfl | rfl | rfl
  all_goals (cases hk; exact ⟨h.cell_ rfl, h.cell_ rfl, h.cell_ rfl, h.cell_ rfl, h.cell_ rfl⟩)
theorem Exs.below {B : Nat} {w w' : World} {g : Nat} (h : Exs w g) (hb : Below B w w') (hg : g < B) : Exs w' g := fun k s a b c e hk => by
  obtain ⟨h0, h1, h2, h3, h4⟩ := h k s a b c e hk
  exact ⟨(hb.cell hg).trans h0, (hb.cell hg).trans h1, (hb.cell hg).trans h2, (hb.cell hg).trans h3, (hb.cell hg).trans h4⟩
theorem exs_right : ∀ x ∈ exL, parseR x.1 = (x.2.1, x.2.2) ∧ x.1.length ≤ 100 := by decide +kernel

set_option maxRecDepth 100000 in
set_option maxHeartbeats 1000000 in
theorem works_any (w : World) (hT : Tabs w) :
    Calls Tryd.prog 7 #[] w fun e w' => e = .returned (.bool true) ∧ Below w.heap.size w w' := by
  go_enter Tryd.func7, Tryd.ntmps7
  go_wp2_with fail
  go_loopw [45] (fun i wr => ∃ k : Nat, k ≤ 17 ∧ i = .int .i64 k ∧ Exs wr w.heap.size ∧ Below w.heap.size w wr ∧ w.heap.size < wr.heap.size) (fun i _ => 17 - (intOf i).toNat)
  case atStart => exact ⟨0, by omega, rfl, exs_of (Blk.new' w _ _ rfl), (Below.refl _ _).alloc (Nat.le_refl _) _, by simp⟩
  case round =>
    obtain ⟨k, hk, rfl, hE, hb, hz⟩ := hrel
    by_cases hlt : k < 17
    · obtain ⟨⟨s, ⟨a, b, c⟩, e⟩, hx⟩ : ∃ x, exL[k]? = some x := ⟨_, List.getElem?_eq_getElem (show k < exL.length from hlt)⟩
      obtain ⟨h0, h1, h2, h3, h4⟩ := hE k s a b c e hx
      obtain ⟨hr, hl⟩ := exs_right _ (List.mem_of_getElem? hx)
      have HR := Lib.hid hr
      have HE := Lib.hid hE
      have HB := Lib.hid hb
      clear hr hE hb hx
      go_wp2_with fail
      refine (parse_any ⟨s.toArray⟩ (by show s.length ≤ _; omega) _ ((hT.below HB.out).weeks.below ((Below.refl _ _).alloc (Nat.le_refl _) _)) ((hT.below HB.out).folds.below ((Below.refl _ _).alloc (Nat.le_refl _) _))).mono ?_
      rintro e' w1 ⟨rfl, hb1⟩
      simp only [HR.out]
      have b2 : Blk w1 wr.heap.size 45 #[.string ⟨s.toArray⟩, .int .i64 a, .int .i64 b, .int .i64 c, .int .i64 e] := (Blk.new' wr _ _ rfl).below hb1 (by simp)
      have c0 : w1.cell? ⟨wr.heap.size, 0, none⟩ = some (.string ⟨s.toArray⟩) := b2.cell_ rfl
      have c1 : w1.cell? ⟨wr.heap.size, 1, none⟩ = some (.int .i64 a) := b2.cell_ rfl
      have c2 : w1.cell? ⟨wr.heap.size, 2, none⟩ = some (.int .i64 b) := b2.cell_ rfl
      have c3 : w1.cell? ⟨wr.heap.size, 3, none⟩ = some (.int .i64 c) := b2.cell_ rfl
      have c4 : w1.cell? ⟨wr.heap.size, 4, none⟩ = some (.int .i64 e) := b2.cell_ rfl
      have hz1 := b2.lt
      have hB1 : Below w.heap.size w w1 := (HB.out.alloc (by omega) _).trans (hb1.mono (by simp; omega))
      have HB1 := Lib.hid hB1
      have HE1 := Lib.hid ((HE.out.below (B := wr.heap.size) ((Below.refl _ _).alloc (Nat.le_refl _) _) (by omega)).below hb1 (by simp; omega))
      unfold dayV
      clear hb1 b2 hB1 HE HB h0 h1 h2 h3 h4 hT
      go_wp2_with fail
      go_roundw
      case rel => exact ⟨k + 1, by omega, by go_num, HE1.out.below (B := w1.heap.size) ((Below.refl _ _).alloc (Nat.le_refl _) _) (by omega), HB1.out.alloc (by omega) _, by simp; omega⟩
      case measure => simp [intOf]; omega
    · obtain rfl : k = 17 := by omega
      have HB := Lib.hid hb
      clear hE hb
      go_wp2_with fail
      refine (print_any 4 0 25 _ (hT.below HB.out).kinds (hT.below HB.out).weeks).mono ?_
      rintro e w1 ⟨rfl, hb1⟩
      have HB1 := Lib.hid (HB.out.trans (hb1.mono HB.out.size))
      rw [show printR 4 0 25 = ([83, 117, 110, 60, 61, 50, 53], 0) by decide +kernel]
      clear hb1 HB
      go_wp2_with fail
      refine (print_any 1 0 0 _ (hT.below HB1.out).kinds (hT.below HB1.out).weeks).mono ?_
      rintro e w2 ⟨rfl, hb2⟩
      have HB2 := Lib.hid (HB1.out.trans (hb2.mono HB1.out.size))
      rw [show printR 1 0 0 = ([], 2) by decide +kernel]
      clear hb2 HB1
      go_wp2_with fail
      go_ret
      exact ⟨rfl, HB2.out⟩
end Go.Proofs.YteikhjhamjohpaaDoor
