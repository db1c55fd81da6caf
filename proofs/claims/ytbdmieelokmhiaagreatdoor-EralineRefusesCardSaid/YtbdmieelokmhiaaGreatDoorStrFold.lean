/-
  strings.EqualFold of any four bytes and the word "last".
-/
import Derived.Test.YtbdmieelokmhiaaGreatDoorStrAny
import Derived.Lib.Fold
import Derived.Laws.Strings3
import Derived.ScopeJumps
import Derived.Deep.LoopGhost
set_option linter.unusedVariables false
namespace Go.Proofs.YtbdmieelokmhiaaGreatDoor
open Go.RowKit

/-- what the two tables of folds hold at the letters of the word "last" and at the long s -/
structure Folds (w : World) : Prop where
  asc : ∀ r v : Nat, (r, v) ∈ [(108, 76), (76, 108), (97, 65), (65, 97), (115, 383), (83, 115), (116, 84), (84, 116)] → w.cell? ⟨4, r, none⟩ = some (.int .u16 (v : Int))
  orb : ∃ b o cap, w.cell? ⟨5, 0, none⟩ = some (.slice (some ⟨b, o, none⟩) 94 cap) ∧ ∀ m v : Nat, (m, v) ∈ [(94, 966), (46, 837), (22, 452), (10, 197), (16, 304), (20, 383), (18, 305), (21, 83)] → w.cell? ⟨b, o + m, none⟩ = some (.int .u16 (v : Int))
theorem Folds.below {w w' : World} (h : Folds w) (hb : Below w.heap.size w w') : Folds w' := by
  have k : ∀ {g i : Nat} {v : Value}, w.cell? ⟨g, i, none⟩ = some v → w'.cell? ⟨g, i, none⟩ = some v := fun hc => (hb.cell (block_lt_of_cell hc)).trans hc
  obtain ⟨b, o, cap, h1, h2⟩ := h.orb
  exact ⟨fun r v hm => k (h.asc r v hm), b, o, cap, k h1, fun m v hm => k (h2 m v hm)⟩

set_option maxRecDepth 100000 in
set_option maxHeartbeats 1000000 in
theorem fold_asc (r : Nat) (v : Nat) (hr : r < 128) (w : World) (hc : w.cell? ⟨4, r, none⟩ = some (.int .u16 (v : Int))) (hv : v < 65536) :
    Calls Tryz.prog 142 #[.int .i32 (r : Int)] w fun e w' => e = .returned (.int .i32 (v : Int)) ∧ w = w' := by
  go_enter Tryz.func142, Tryz.ntmps142
  go_wp2_with fail
  go_ret
  exact ⟨rfl, rfl⟩

set_option maxRecDepth 100000 in
set_option maxHeartbeats 2000000 in
theorem fold_long (w : World) (hF : Folds w) :
    Calls Tryz.prog 142 #[.int .i32 383] w fun e w' => e = .returned (.int .i32 83) ∧ Below w.heap.size w w' := by
  obtain ⟨b, o, cap, h1, h2⟩ := hF.orb
  have c94 := h2 94 966 (by decide)
  have c46 := h2 46 837 (by decide)
  have c22 := h2 22 452 (by decide)
  have c10 := h2 10 197 (by decide)
  have c16 := h2 16 304 (by decide)
  have c20 := h2 20 383 (by decide)
  have c18 := h2 18 305 (by decide)
  have c21 := h2 21 83 (by decide)
  clear h2 hF
  go_enter Tryz.func142, Tryz.ntmps142
  go_wp2_with fail
  refine wp_loop_rounds 8 ?_
  rw [rounds_succ]
  go_wp2_with fail
  iterate 7 (rw [rounds_succ]; go_wp2_with fail)
  go_ret
  exact ⟨rfl, Below.refl _ _⟩

def lastL : List UInt8 := [108, 97, 115, 116]

theorem wp_scope_forward {P : Program} {Q : Exit → Act → World → Prop} {a : Act} {w : World} {c rest : Code} (l : Nat) (hf : findLabel c l = some rest)
    (first : c.wp P (Exit.jump l (fun a' w' => rest.wp P (Exit.noGoto Q) a' w') Q) a w) : (Code.scope c).wp P Q a w := by
  refine wp_scope_jumps l (fun a' w' => rest.wp P (Exit.noGoto Q) a' w') (fun _ _ => 0) hf first ?_
  intro a' w' h b k cs
  obtain ⟨e, a₁, w₁, hq, harr⟩ := h b k cs
  refine ⟨e, a₁, w₁, ?_, harr⟩
  cases e with
  | goto l => exact hq.elim
  | _ => exact hq

theorem jump_ret {l : Nat} {J : Act → World → Prop} {Q : Exit → Act → World → Prop} {a : Act} {w : World} : Exit.jump l J Q .ret a w = Q .ret a w := rfl

set_option maxRecDepth 100000 in
set_option maxHeartbeats 1000000 in
theorem rune_of_ascii (s : ByteArray) (y : Nat) (h : 0 < s.size) (hy : (s[0]'h).toNat = y) (h128 : y < 128) (w : World) :
    Calls Tryz.prog 126 #[.string s] w fun e w' => e = .returned (.tuple #[.int .i32 (y : Int), .int .i64 1]) ∧ w = w' := by
  have he : s.toList.isEmpty = false := by
    rw [Lib.toList_data]
    cases hh : s.data.toList with
    | nil => have := Lib.size_eq s; rw [hh, List.length_nil] at this; omega
    | cons _ _ => rfl
  go_enter Tryz.func126, Tryz.ntmps126
  go_wp2_with fail
  go_ret2
  exact ⟨rfl, rfl⟩

theorem dec_long {c d : UInt8} {n : Nat} (h : Utf8.decode ⟨#[c, d]⟩ 0 = (383, n)) : n = 2 := by
  have hc : ∀ k, 2 ≤ k → ¬ (0 + k < (⟨#[c, d]⟩ : ByteArray).size) := fun k hk => by show ¬ 0 + k < 2; omega
  simp only [Utf8.decode] at h
  repeat' split at h
  all_goals simp_all [Utf8.runeError]
  all_goals omega

def inv (a b c d : UInt8) (i : Nat) : Prop := Lib.equalFold ([a, b, c, d].drop i) (lastL.drop i) = Lib.equalFold [a, b, c, d] lastL

set_option maxRecDepth 100000 in
set_option maxHeartbeats 2000000 in
theorem fold_any (a b c d : UInt8) (w : World) (hF : Folds w) :
    Calls Tryz.prog 100 #[.string ⟨#[a, b, c, d]⟩, .string ⟨#[108, 97, 115, 116]⟩] w fun e w' => e = .returned (.bool (Lib.equalFold [a, b, c, d] lastL)) ∧ Below w.heap.size w w' := by
  go_enter Tryz.func100, Tryz.ntmps100
  go_wp2_with fail
  refine wp_scope_forward 0 rfl ?_
  go_wp2_with fail
  go_loopg [5] 4 (fun g s5 wx => w = wx ∧ ∃ i : Nat, i + g = 4 ∧ s5 = .int .i64 i ∧ Aside (inv a b c d i))
  case atStart => exact ⟨rfl, 0, by omega, rfl, rfl⟩
  case round =>
    obtain ⟨rfl, i, hig, rfl, HI⟩ := hrel
    rcases (by omega : i = 4 ∨ i = 0 ∨ i = 1 ∨ i = 2 ∨ i = 3) with rfl | rfl | rfl | rfl | rfl
    · go_wp2_with fail
      rw [jump_ret]
      go_ret
      exact ⟨by rw [← HI.out]; rfl, Below.refl _ _⟩
    · by_cases hx : 128 ≤ a.toNat
      · have hor : bits .or .u8 (a.toNat : Int) 108 = ((a.toNat ||| 108 : Nat) : Int) := u8_or_nat _ 108 (by have := a.toNat_lt; omega) (by decide)
        have hor128 : (128 : Int) ≤ ((a.toNat ||| 108 : Nat) : Int) := by have := Nat.left_le_or (n := a.toNat) (m := 108); omega
        have g0 : ∀ h, ((⟨#[a, b, c, d]⟩ : ByteArray)[0]'h).toNat = a.toNat := fun _ => rfl
        have g1 : ∀ h, ((⟨#[108, 97, 115, 116]⟩ : ByteArray)[0]'h).toNat = 108 := fun _ => rfl
        have x1 : (⟨#[a, b, c, d]⟩ : ByteArray).extract 0 4 = ⟨#[a, b, c, d]⟩ := rfl
        have x2 : (⟨#[108, 97, 115, 116]⟩ : ByteArray).extract 0 4 = ⟨#[108, 97, 115, 116]⟩ := rfl
        have n0 := fun (W : World) (ty : TypeId) => run_next_any (P := Tryz.prog) W ⟨#[a, b, c, d]⟩ 0 ty (by show 0 < 4; decide)
        obtain ⟨r, n, hD⟩ : ∃ r n, Utf8.decode ⟨#[a, b, c, d]⟩ 0 = (r, n) := ⟨_, _, rfl⟩
        have hr := decode_high ⟨#[a, b, c, d]⟩ 0 (by show 0 < 4; decide) hx
        have hr2 := decode_le ⟨#[a, b, c, d]⟩ 0
        rw [hD] at hr hr2
        simp only [hD] at n0
        simp only at hr hr2
        have hrn : ((108 : Int) == (r : Int)) = false := beq_eq_false_iff_ne.2 (by omega)
        have hE : Aside (Lib.equalFold [a, b, c, d] lastL = false) := by
          show _ = _
          rw [← HI.out]
          exact Lib.equalFold_no _ _ _ _ (decide_eq_false (by
            show ¬ (a.toNat = 108 ∨ (65 ≤ a.toNat ∧ a.toNat ≤ 90 ∧ 108 = a.toNat + 32) ∨ (65 ≤ 108 ∧ 108 ≤ 90 ∧ a.toNat = 108 + 32))
            omega))
        have X := Lib.hid (And.intro x1 (And.intro x2 hD))
        clear x1 x2 hD
        go_wp2_with fail
        go_step3
        refine ⟨rfl, ?_⟩
        go_wp2_with fail
        rw [X.out.1, X.out.2.1]
        have hB' : Below w.heap.size w (w.iter ⟨#[a, b, c, d]⟩ n) := (Below.refl _ _).alloc (Nat.le_refl _) _
        have hF' : Folds (w.iter ⟨#[a, b, c, d]⟩ n) := hF.below hB'
        refine wp_loop_rounds 1 ?_
        rw [rounds_succ]
        go_wp2_with fail
        refine (rune_of_ascii _ 108 (by decide) rfl (by decide) _).mono ?_
        rintro e w' ⟨rfl, rfl⟩
        go_wp2_with fail
        refine (fold_asc 108 76 (by decide) _ (hF'.asc _ _ (by decide)) (by decide)).mono ?_
        rintro e w' ⟨rfl, rfl⟩
        go_wp2_with fail
        refine wp_loop_rounds 2 ?_
        rw [rounds_succ]
        go_wp2_with fail
        refine (fold_asc 76 108 (by decide) _ (hF'.asc _ _ (by decide)) (by decide)).mono ?_
        rintro e w' ⟨rfl, rfl⟩
        go_wp2_with fail
        rw [rounds_succ]
        go_wp2_with fail
        rw [Exit.noGoto_ret]
        go_ret
        exact ⟨by rw [hE.out]; rfl, hB'⟩
      have g1 : ∀ h, ((⟨#[108, 97, 115, 116]⟩ : ByteArray)[0]'h).toNat = 108 := fun _ => rfl
      obtain ⟨g, rfl⟩ : ∃ g, gk = g + 1 := ⟨gk - 1, by omega⟩
      by_cases h1 : a = 108
      · subst h1
        have g0 : ∀ h, ((⟨#[108, b, c, d]⟩ : ByteArray)[0]'h).toNat = 108 := fun _ => rfl
        have hor : bits .or .u8 108 108 = 108 := by decide
        go_wp2_with fail
        go_roundg g
        case measure => omega
        case rel => exact ⟨rfl, 1, by omega, rfl, (Lib.equalFold_yes _ _ _ _ (by decide)).symm.trans HI.out⟩
      by_cases h2 : a = 76
      · subst h2
        have g0 : ∀ h, ((⟨#[76, b, c, d]⟩ : ByteArray)[0]'h).toNat = 76 := fun _ => rfl
        have hor : bits .or .u8 76 108 = 108 := by decide
        go_wp2_with fail
        go_roundg g
        case measure => omega
        case rel => exact ⟨rfl, 1, by omega, rfl, (Lib.equalFold_yes _ _ _ _ (by decide)).symm.trans HI.out⟩
      have e1 : a.toNat ≠ 108 := fun e => h1 (UInt8.toNat_inj.1 e)
      have e2 : a.toNat ≠ 76 := fun e => h2 (UInt8.toNat_inj.1 e)
      have hE : Aside (Lib.equalFold [a, b, c, d] lastL = false) := by
        show _ = _
        rw [← HI.out]
        exact Lib.equalFold_no _ _ _ _ (decide_eq_false (by
          show ¬ (a.toNat = 108 ∨ (65 ≤ a.toNat ∧ a.toNat ≤ 90 ∧ 108 = a.toNat + 32) ∨ (65 ≤ 108 ∧ 108 ≤ 90 ∧ a.toNat = 108 + 32))
          omega))
      have hor : bits .or .u8 (a.toNat : Int) 108 = ((a.toNat ||| 108 : Nat) : Int) := u8_or_nat _ 108 (by have := a.toNat_lt; omega) (by decide)
      have hor128 : ¬ (128 : Int) ≤ ((a.toNat ||| 108 : Nat) : Int) := by have := Nat.or_lt_two_pow (n := 7) (x := a.toNat) (y := 108) (by omega) (by decide); omega
      have g0 : ∀ h, ((⟨#[a, b, c, d]⟩ : ByteArray)[0]'h).toNat = a.toNat := fun _ => rfl
      have e3 : ((108 : Int) == (a.toNat : Int)) = false := beq_eq_false_iff_ne.2 (by omega)
      clear h1 h2
      go_wp2_with fail
      all_goals (try simp only [beq_eq_false_iff_ne, ne_eq] at *)
      all_goals first
        | (exfalso; omega)
        | (rw [jump_ret]
           go_ret
           exact ⟨by rw [hE.out]; rfl, Below.refl _ _⟩)
    · by_cases hx : 128 ≤ b.toNat
      · have hor : bits .or .u8 (b.toNat : Int) 97 = ((b.toNat ||| 97 : Nat) : Int) := u8_or_nat _ 97 (by have := b.toNat_lt; omega) (by decide)
        have hor128 : (128 : Int) ≤ ((b.toNat ||| 97 : Nat) : Int) := by have := Nat.left_le_or (n := b.toNat) (m := 97); omega
        have g0 : ∀ h, ((⟨#[a, b, c, d]⟩ : ByteArray)[1]'h).toNat = b.toNat := fun _ => rfl
        have g1 : ∀ h, ((⟨#[108, 97, 115, 116]⟩ : ByteArray)[1]'h).toNat = 97 := fun _ => rfl
        have x1 : (⟨#[a, b, c, d]⟩ : ByteArray).extract 1 4 = ⟨#[b, c, d]⟩ := rfl
        have x2 : (⟨#[108, 97, 115, 116]⟩ : ByteArray).extract 1 4 = ⟨#[97, 115, 116]⟩ := rfl
        have n0 := fun (W : World) (ty : TypeId) => run_next_any (P := Tryz.prog) W ⟨#[b, c, d]⟩ 0 ty (by show 0 < 3; decide)
        obtain ⟨r, n, hD⟩ : ∃ r n, Utf8.decode ⟨#[b, c, d]⟩ 0 = (r, n) := ⟨_, _, rfl⟩
        have hr := decode_high ⟨#[b, c, d]⟩ 0 (by show 0 < 3; decide) hx
        have hr2 := decode_le ⟨#[b, c, d]⟩ 0
        rw [hD] at hr hr2
        simp only [hD] at n0
        simp only at hr hr2
        have hrn : ((97 : Int) == (r : Int)) = false := beq_eq_false_iff_ne.2 (by omega)
        have hE : Aside (Lib.equalFold [a, b, c, d] lastL = false) := by
          show _ = _
          rw [← HI.out]
          exact Lib.equalFold_no _ _ _ _ (decide_eq_false (by
            show ¬ (b.toNat = 97 ∨ (65 ≤ b.toNat ∧ b.toNat ≤ 90 ∧ 97 = b.toNat + 32) ∨ (65 ≤ 97 ∧ 97 ≤ 90 ∧ b.toNat = 97 + 32))
            omega))
        have X := Lib.hid (And.intro x1 (And.intro x2 hD))
        clear x1 x2 hD
        go_wp2_with fail
        go_step3
        refine ⟨rfl, ?_⟩
        go_wp2_with fail
        rw [X.out.1, X.out.2.1]
        have hB' : Below w.heap.size w (w.iter ⟨#[b, c, d]⟩ n) := (Below.refl _ _).alloc (Nat.le_refl _) _
        have hF' : Folds (w.iter ⟨#[b, c, d]⟩ n) := hF.below hB'
        refine wp_loop_rounds 1 ?_
        rw [rounds_succ]
        go_wp2_with fail
        refine (rune_of_ascii _ 97 (by decide) rfl (by decide) _).mono ?_
        rintro e w' ⟨rfl, rfl⟩
        go_wp2_with fail
        refine (fold_asc 97 65 (by decide) _ (hF'.asc _ _ (by decide)) (by decide)).mono ?_
        rintro e w' ⟨rfl, rfl⟩
        go_wp2_with fail
        refine wp_loop_rounds 2 ?_
        rw [rounds_succ]
        go_wp2_with fail
        refine (fold_asc 65 97 (by decide) _ (hF'.asc _ _ (by decide)) (by decide)).mono ?_
        rintro e w' ⟨rfl, rfl⟩
        go_wp2_with fail
        rw [rounds_succ]
        go_wp2_with fail
        rw [Exit.noGoto_ret]
        go_ret
        exact ⟨by rw [hE.out]; rfl, hB'⟩
      have g1 : ∀ h, ((⟨#[108, 97, 115, 116]⟩ : ByteArray)[1]'h).toNat = 97 := fun _ => rfl
      obtain ⟨g, rfl⟩ : ∃ g, gk = g + 1 := ⟨gk - 1, by omega⟩
      by_cases h1 : b = 97
      · subst h1
        have g0 : ∀ h, ((⟨#[a, 97, c, d]⟩ : ByteArray)[1]'h).toNat = 97 := fun _ => rfl
        have hor : bits .or .u8 97 97 = 97 := by decide
        go_wp2_with fail
        go_roundg g
        case measure => omega
        case rel => exact ⟨rfl, 2, by omega, rfl, (Lib.equalFold_yes _ _ _ _ (by decide)).symm.trans HI.out⟩
      by_cases h2 : b = 65
      · subst h2
        have g0 : ∀ h, ((⟨#[a, 65, c, d]⟩ : ByteArray)[1]'h).toNat = 65 := fun _ => rfl
        have hor : bits .or .u8 65 97 = 97 := by decide
        go_wp2_with fail
        go_roundg g
        case measure => omega
        case rel => exact ⟨rfl, 2, by omega, rfl, (Lib.equalFold_yes _ _ _ _ (by decide)).symm.trans HI.out⟩
      have e1 : b.toNat ≠ 97 := fun e => h1 (UInt8.toNat_inj.1 e)
      have e2 : b.toNat ≠ 65 := fun e => h2 (UInt8.toNat_inj.1 e)
      have hE : Aside (Lib.equalFold [a, b, c, d] lastL = false) := by
        show _ = _
        rw [← HI.out]
        exact Lib.equalFold_no _ _ _ _ (decide_eq_false (by
          show ¬ (b.toNat = 97 ∨ (65 ≤ b.toNat ∧ b.toNat ≤ 90 ∧ 97 = b.toNat + 32) ∨ (65 ≤ 97 ∧ 97 ≤ 90 ∧ b.toNat = 97 + 32))
          omega))
      have hor : bits .or .u8 (b.toNat : Int) 97 = ((b.toNat ||| 97 : Nat) : Int) := u8_or_nat _ 97 (by have := b.toNat_lt; omega) (by decide)
      have hor128 : ¬ (128 : Int) ≤ ((b.toNat ||| 97 : Nat) : Int) := by have := Nat.or_lt_two_pow (n := 7) (x := b.toNat) (y := 97) (by omega) (by decide); omega
      have g0 : ∀ h, ((⟨#[a, b, c, d]⟩ : ByteArray)[1]'h).toNat = b.toNat := fun _ => rfl
      have e3 : ((97 : Int) == (b.toNat : Int)) = false := beq_eq_false_iff_ne.2 (by omega)
      clear h1 h2
      go_wp2_with fail
      all_goals (try simp only [beq_eq_false_iff_ne, ne_eq] at *)
      all_goals first
        | (exfalso; omega)
        | (rw [jump_ret]
           go_ret
           exact ⟨by rw [hE.out]; rfl, Below.refl _ _⟩)
    · by_cases hx : 128 ≤ c.toNat
      · have hor : bits .or .u8 (c.toNat : Int) 115 = ((c.toNat ||| 115 : Nat) : Int) := u8_or_nat _ 115 (by have := c.toNat_lt; omega) (by decide)
        have hor128 : (128 : Int) ≤ ((c.toNat ||| 115 : Nat) : Int) := by have := Nat.left_le_or (n := c.toNat) (m := 115); omega
        have g0 : ∀ h, ((⟨#[a, b, c, d]⟩ : ByteArray)[2]'h).toNat = c.toNat := fun _ => rfl
        have g1 : ∀ h, ((⟨#[108, 97, 115, 116]⟩ : ByteArray)[2]'h).toNat = 115 := fun _ => rfl
        have x1 : (⟨#[a, b, c, d]⟩ : ByteArray).extract 2 4 = ⟨#[c, d]⟩ := rfl
        have x2 : (⟨#[108, 97, 115, 116]⟩ : ByteArray).extract 2 4 = ⟨#[115, 116]⟩ := rfl
        have n0 := fun (W : World) (ty : TypeId) => run_next_any (P := Tryz.prog) W ⟨#[c, d]⟩ 0 ty (by show 0 < 2; decide)
        obtain ⟨r, n, hD⟩ : ∃ r n, Utf8.decode ⟨#[c, d]⟩ 0 = (r, n) := ⟨_, _, rfl⟩
        have hr := decode_high ⟨#[c, d]⟩ 0 (by show 0 < 2; decide) hx
        have hr2 := decode_le ⟨#[c, d]⟩ 0
        rw [hD] at hr hr2
        simp only [hD] at n0
        simp only at hr hr2
        have hrn : ((115 : Int) == (r : Int)) = false := beq_eq_false_iff_ne.2 (by omega)
        have hE : Aside (Lib.equalFold [a, b, c, d] lastL = false) := by
          show _ = _
          rw [← HI.out]
          exact Lib.equalFold_no _ _ _ _ (decide_eq_false (by
            show ¬ (c.toNat = 115 ∨ (65 ≤ c.toNat ∧ c.toNat ≤ 90 ∧ 115 = c.toNat + 32) ∨ (65 ≤ 115 ∧ 115 ≤ 90 ∧ c.toNat = 115 + 32))
            omega))
        have X := Lib.hid (And.intro x1 (And.intro x2 hD))
        clear x1 x2 hD
        go_wp2_with fail
        go_step3
        refine ⟨rfl, ?_⟩
        go_wp2_with fail
        rw [X.out.1, X.out.2.1]
        have hB' : Below w.heap.size w (w.iter ⟨#[c, d]⟩ n) := (Below.refl _ _).alloc (Nat.le_refl _) _
        have hF' : Folds (w.iter ⟨#[c, d]⟩ n) := hF.below hB'
        rcases (by omega : r < 383 ∨ r = 383 ∨ 383 < r) with h3 | h3 | h3
        · have hq : ((383 : Int) == (r : Int)) = false := beq_eq_false_iff_ne.2 (by omega)
          refine wp_loop_rounds 1 ?_
          rw [rounds_succ]
          go_wp2_with fail
          refine (rune_of_ascii _ 115 (by decide) rfl (by decide) _).mono ?_
          rintro e w' ⟨rfl, rfl⟩
          go_wp2_with fail
          refine (fold_asc 115 383 (by decide) _ (hF'.asc _ _ (by decide)) (by decide)).mono ?_
          rintro e w' ⟨rfl, rfl⟩
          go_wp2_with fail
          refine wp_loop_rounds 1 ?_
          rw [rounds_succ]
          go_wp2_with fail
          rw [Exit.noGoto_ret]
          go_ret
          exact ⟨by rw [hE.out]; rfl, hB'⟩
        · subst h3
          obtain rfl : n = 2 := dec_long X.out.2.2
          have n2 := fun (W : World) (ty : TypeId) => run_next_end (P := Tryz.prog) W ⟨#[c, d]⟩ 2 ty (by show ¬ 2 < 2; decide)
          refine wp_loop_rounds 2 ?_
          rw [rounds_succ]
          go_wp2_with fail
          refine (rune_of_ascii _ 115 (by decide) rfl (by decide) _).mono ?_
          rintro e w' ⟨rfl, rfl⟩
          go_wp2_with fail
          refine (fold_asc 115 383 (by decide) _ (hF'.asc _ _ (by decide)) (by decide)).mono ?_
          rintro e w' ⟨rfl, rfl⟩
          go_wp2_with fail
          refine wp_loop_rounds 1 ?_
          rw [rounds_succ]
          go_wp2_with fail
          rw [rounds_succ]
          go_wp2_with fail
          rw [Exit.noGoto_ret]
          go_ret
          exact ⟨by rw [hE.out]; rfl, hB'⟩
        · have hq : ((115 : Int) == (r : Int)) = false := beq_eq_false_iff_ne.2 (by omega)
          refine wp_loop_rounds 1 ?_
          rw [rounds_succ]
          go_wp2_with fail
          refine (rune_of_ascii _ 115 (by decide) rfl (by decide) _).mono ?_
          rintro e w' ⟨rfl, rfl⟩
          go_wp2_with fail
          refine (fold_asc 115 383 (by decide) _ (hF'.asc _ _ (by decide)) (by decide)).mono ?_
          rintro e w' ⟨rfl, rfl⟩
          go_wp2_with fail
          refine wp_loop_rounds 3 ?_
          rw [rounds_succ]
          go_wp2_with fail
          refine (fold_long _ hF').mono ?_
          rintro e w2 ⟨rfl, hb2⟩
          have hF2 : Folds w2 := hF'.below hb2
          go_wp2_with fail
          rw [rounds_succ]
          go_wp2_with fail
          refine (fold_asc 83 115 (by decide) _ (hF2.asc _ _ (by decide)) (by decide)).mono ?_
          rintro e w' ⟨rfl, rfl⟩
          go_wp2_with fail
          rw [rounds_succ]
          go_wp2_with fail
          rw [Exit.noGoto_ret]
          go_ret
          exact ⟨by rw [hE.out]; rfl, hB'.trans (hb2.mono hB'.size)⟩
      have g1 : ∀ h, ((⟨#[108, 97, 115, 116]⟩ : ByteArray)[2]'h).toNat = 115 := fun _ => rfl
      obtain ⟨g, rfl⟩ : ∃ g, gk = g + 1 := ⟨gk - 1, by omega⟩
      by_cases h1 : c = 115
      · subst h1
        have g0 : ∀ h, ((⟨#[a, b, 115, d]⟩ : ByteArray)[2]'h).toNat = 115 := fun _ => rfl
        have hor : bits .or .u8 115 115 = 115 := by decide
        go_wp2_with fail
        go_roundg g
        case measure => omega
        case rel => exact ⟨rfl, 3, by omega, rfl, (Lib.equalFold_yes _ _ _ _ (by decide)).symm.trans HI.out⟩
      by_cases h2 : c = 83
      · subst h2
        have g0 : ∀ h, ((⟨#[a, b, 83, d]⟩ : ByteArray)[2]'h).toNat = 83 := fun _ => rfl
        have hor : bits .or .u8 83 115 = 115 := by decide
        go_wp2_with fail
        go_roundg g
        case measure => omega
        case rel => exact ⟨rfl, 3, by omega, rfl, (Lib.equalFold_yes _ _ _ _ (by decide)).symm.trans HI.out⟩
      have e1 : c.toNat ≠ 115 := fun e => h1 (UInt8.toNat_inj.1 e)
      have e2 : c.toNat ≠ 83 := fun e => h2 (UInt8.toNat_inj.1 e)
      have hE : Aside (Lib.equalFold [a, b, c, d] lastL = false) := by
        show _ = _
        rw [← HI.out]
        exact Lib.equalFold_no _ _ _ _ (decide_eq_false (by
          show ¬ (c.toNat = 115 ∨ (65 ≤ c.toNat ∧ c.toNat ≤ 90 ∧ 115 = c.toNat + 32) ∨ (65 ≤ 115 ∧ 115 ≤ 90 ∧ c.toNat = 115 + 32))
          omega))
      have hor : bits .or .u8 (c.toNat : Int) 115 = ((c.toNat ||| 115 : Nat) : Int) := u8_or_nat _ 115 (by have := c.toNat_lt; omega) (by decide)
      have hor128 : ¬ (128 : Int) ≤ ((c.toNat ||| 115 : Nat) : Int) := by have := Nat.or_lt_two_pow (n := 7) (x := c.toNat) (y := 115) (by omega) (by decide); omega
      have g0 : ∀ h, ((⟨#[a, b, c, d]⟩ : ByteArray)[2]'h).toNat = c.toNat := fun _ => rfl
      have e3 : ((115 : Int) == (c.toNat : Int)) = false := beq_eq_false_iff_ne.2 (by omega)
      clear h1 h2
      go_wp2_with fail
      all_goals (try simp only [beq_eq_false_iff_ne, ne_eq] at *)
      all_goals first
        | (exfalso; omega)
        | (rw [jump_ret]
           go_ret
           exact ⟨by rw [hE.out]; rfl, Below.refl _ _⟩)
    · by_cases hx : 128 ≤ d.toNat
      · have hor : bits .or .u8 (d.toNat : Int) 116 = ((d.toNat ||| 116 : Nat) : Int) := u8_or_nat _ 116 (by have := d.toNat_lt; omega) (by decide)
        have hor128 : (128 : Int) ≤ ((d.toNat ||| 116 : Nat) : Int) := by have := Nat.left_le_or (n := d.toNat) (m := 116); omega
        have g0 : ∀ h, ((⟨#[a, b, c, d]⟩ : ByteArray)[3]'h).toNat = d.toNat := fun _ => rfl
        have g1 : ∀ h, ((⟨#[108, 97, 115, 116]⟩ : ByteArray)[3]'h).toNat = 116 := fun _ => rfl
        have x1 : (⟨#[a, b, c, d]⟩ : ByteArray).extract 3 4 = ⟨#[d]⟩ := rfl
        have x2 : (⟨#[108, 97, 115, 116]⟩ : ByteArray).extract 3 4 = ⟨#[116]⟩ := rfl
        have n0 := fun (W : World) (ty : TypeId) => run_next_any (P := Tryz.prog) W ⟨#[d]⟩ 0 ty (by show 0 < 1; decide)
        obtain ⟨r, n, hD⟩ : ∃ r n, Utf8.decode ⟨#[d]⟩ 0 = (r, n) := ⟨_, _, rfl⟩
        have hr := decode_high ⟨#[d]⟩ 0 (by show 0 < 1; decide) hx
        have hr2 := decode_le ⟨#[d]⟩ 0
        rw [hD] at hr hr2
        simp only [hD] at n0
        simp only at hr hr2
        have hrn : ((116 : Int) == (r : Int)) = false := beq_eq_false_iff_ne.2 (by omega)
        have hE : Aside (Lib.equalFold [a, b, c, d] lastL = false) := by
          show _ = _
          rw [← HI.out]
          exact Lib.equalFold_no _ _ _ _ (decide_eq_false (by
            show ¬ (d.toNat = 116 ∨ (65 ≤ d.toNat ∧ d.toNat ≤ 90 ∧ 116 = d.toNat + 32) ∨ (65 ≤ 116 ∧ 116 ≤ 90 ∧ d.toNat = 116 + 32))
            omega))
        have X := Lib.hid (And.intro x1 (And.intro x2 hD))
        clear x1 x2 hD
        go_wp2_with fail
        go_step3
        refine ⟨rfl, ?_⟩
        go_wp2_with fail
        rw [X.out.1, X.out.2.1]
        have hB' : Below w.heap.size w (w.iter ⟨#[d]⟩ n) := (Below.refl _ _).alloc (Nat.le_refl _) _
        have hF' : Folds (w.iter ⟨#[d]⟩ n) := hF.below hB'
        refine wp_loop_rounds 1 ?_
        rw [rounds_succ]
        go_wp2_with fail
        refine (rune_of_ascii _ 116 (by decide) rfl (by decide) _).mono ?_
        rintro e w' ⟨rfl, rfl⟩
        go_wp2_with fail
        refine (fold_asc 116 84 (by decide) _ (hF'.asc _ _ (by decide)) (by decide)).mono ?_
        rintro e w' ⟨rfl, rfl⟩
        go_wp2_with fail
        refine wp_loop_rounds 2 ?_
        rw [rounds_succ]
        go_wp2_with fail
        refine (fold_asc 84 116 (by decide) _ (hF'.asc _ _ (by decide)) (by decide)).mono ?_
        rintro e w' ⟨rfl, rfl⟩
        go_wp2_with fail
        rw [rounds_succ]
        go_wp2_with fail
        rw [Exit.noGoto_ret]
        go_ret
        exact ⟨by rw [hE.out]; rfl, hB'⟩
      have g1 : ∀ h, ((⟨#[108, 97, 115, 116]⟩ : ByteArray)[3]'h).toNat = 116 := fun _ => rfl
      obtain ⟨g, rfl⟩ : ∃ g, gk = g + 1 := ⟨gk - 1, by omega⟩
      by_cases h1 : d = 116
      · subst h1
        have g0 : ∀ h, ((⟨#[a, b, c, 116]⟩ : ByteArray)[3]'h).toNat = 116 := fun _ => rfl
        have hor : bits .or .u8 116 116 = 116 := by decide
        go_wp2_with fail
        go_roundg g
        case measure => omega
        case rel => exact ⟨rfl, 4, by omega, rfl, (Lib.equalFold_yes _ _ _ _ (by decide)).symm.trans HI.out⟩
      by_cases h2 : d = 84
      · subst h2
        have g0 : ∀ h, ((⟨#[a, b, c, 84]⟩ : ByteArray)[3]'h).toNat = 84 := fun _ => rfl
        have hor : bits .or .u8 84 116 = 116 := by decide
        go_wp2_with fail
        go_roundg g
        case measure => omega
        case rel => exact ⟨rfl, 4, by omega, rfl, (Lib.equalFold_yes _ _ _ _ (by decide)).symm.trans HI.out⟩
      have e1 : d.toNat ≠ 116 := fun e => h1 (UInt8.toNat_inj.1 e)
      have e2 : d.toNat ≠ 84 := fun e => h2 (UInt8.toNat_inj.1 e)
      have hE : Aside (Lib.equalFold [a, b, c, d] lastL = false) := by
        show _ = _
        rw [← HI.out]
        exact Lib.equalFold_no _ _ _ _ (decide_eq_false (by
          show ¬ (d.toNat = 116 ∨ (65 ≤ d.toNat ∧ d.toNat ≤ 90 ∧ 116 = d.toNat + 32) ∨ (65 ≤ 116 ∧ 116 ≤ 90 ∧ d.toNat = 116 + 32))
          omega))
      have hor : bits .or .u8 (d.toNat : Int) 116 = ((d.toNat ||| 116 : Nat) : Int) := u8_or_nat _ 116 (by have := d.toNat_lt; omega) (by decide)
      have hor128 : ¬ (128 : Int) ≤ ((d.toNat ||| 116 : Nat) : Int) := by have := Nat.or_lt_two_pow (n := 7) (x := d.toNat) (y := 116) (by omega) (by decide); omega
      have g0 : ∀ h, ((⟨#[a, b, c, d]⟩ : ByteArray)[3]'h).toNat = d.toNat := fun _ => rfl
      have e3 : ((116 : Int) == (d.toNat : Int)) = false := beq_eq_false_iff_ne.2 (by omega)
      clear h1 h2
      go_wp2_with fail
      all_goals (try simp only [beq_eq_false_iff_ne, ne_eq] at *)
      all_goals first
        | (exfalso; omega)
        | (rw [jump_ret]
           go_ret
           exact ⟨by rw [hE.out]; rfl, Below.refl _ _⟩)
end Go.Proofs.YtbdmieelokmhiaaGreatDoor
