/-
  strings.IndexAny of any string and the two signs: the index of the first sign.
-/
import Derived.Test.YtbdmieelokmhiaaGreatDoorStrRune
import Derived.Test.YtbdmieelokmhiaaGreatDoorShelf
import Derived.Lib.IndexAny
import Derived.Lib.OthersKept
import Derived.WalkSmall
set_option linter.unusedVariables false
namespace Go.Proofs.YtbdmieelokmhiaaGreatDoor
open Go.RowKit

theorem get_list (s : ByteArray) (j : Nat) (h : j < s.size) : s.data.toList[j]? = some (s.get! j) := by
  have e : s.get! j = s[j]'h := get_at s j h
  rw [e]
  exact Lib.data_getElem? s j h

theorem dec_wide (s : ByteArray) (pos : Nat) (h : pos < s.size) (ha : 128 ≤ (s.get! pos).toNat) :
    pos + (Utf8.decode s pos).2 ≤ s.size ∧ ∀ j, j < (Utf8.decode s pos).2 → 128 ≤ (s.get! (pos + j)).toNat := by
  have hn : ¬ (s.get! (pos + 0)).toNat < 128 := by rw [Nat.add_zero]; omega
  have h0 : ∀ j, j < 1 → 128 ≤ (s.get! (pos + j)).toNat := fun j hj => by
    obtain rfl : j = 0 := by omega
    rw [Nat.add_zero]; exact ha
  simp only [Utf8.decode, hn, if_false]
  repeat' split
  all_goals first
    | exact ⟨by omega, h0⟩
    | (rename_i hc _; simp only [Bool.and_eq_true, decide_eq_true_eq, beq_iff_eq] at hc
       refine ⟨by omega, fun j hj => ?_⟩
       rcases (by omega : j = 0 ∨ j = 1 ∨ j = 2 ∨ j = 3) with rfl | rfl | rfl | rfl
       all_goals (simp only at hj; first | omega | exact h0 0 (by decide)))

def signs : List UInt8 := [60, 62]
theorem not_sign {b : UInt8} (h : 128 ≤ b.toNat) : signs.contains b = false := by
  have : ∀ c : UInt8, 128 ≤ c.toNat → signs.contains c = false := by
    intro c hc
    by_cases h1 : c = 60
    · subst h1; exact absurd hc (by decide)
    by_cases h2 : c = 62
    · subst h2; exact absurd hc (by decide)
    simp [signs, h1, h2]
  exact this b h
theorem noAny_wide {s : ByteArray} {pos n : Nat} (hn : Lib.NoAny s.data.toList signs pos) (hs : pos + n ≤ s.size) (h : ∀ j, j < n → 128 ≤ (s.get! (pos + j)).toNat) : Lib.NoAny s.data.toList signs (pos + n) := fun j b hj hb => by
  by_cases e : j < pos
  · exact hn j b e hb
  · have g := get_list s j (by omega)
    rw [hb] at g
    have := h (j - pos) (by omega)
    rw [show pos + (j - pos) = j by omega] at this
    cases g
    exact not_sign this
theorem sign_of {b : UInt8} : signs.contains b = decide (0 ≤ signIdx b.toNat) := by
  unfold signIdx
  by_cases h1 : b = 60
  · subst h1; decide
  by_cases h2 : b = 62
  · subst h2; decide
  have e1 : ¬ ((b.toNat : Int) = 60) := fun e => h1 (UInt8.toNat_inj.1 (by show b.toNat = 60; omega))
  have e2 : ¬ ((b.toNat : Int) = 62) := fun e => h2 (UInt8.toNat_inj.1 (by show b.toNat = 62; omega))
  rw [if_neg e1, if_neg e2]
  simp [signs, h1, h2]

set_option maxHeartbeats 400000 in
theorem useSet_any (n : Int) (w : World) :
    Calls Tryz.prog 139 #[.int .i64 n] w fun e w' => e = .returned (.bool (decide (8 < n))) ∧ w = w' := by
  go_enter Tryz.func139, Tryz.ntmps139
  go_wp2
  go_ret
  exact ⟨rfl, rfl⟩

theorem width_one (s : ByteArray) (pos : Nat) : 1 ≤ (Utf8.decode s pos).2 := by
  simp only [Utf8.decode]
  repeat' split
  all_goals (show (1 : Nat) ≤ _; simp)

theorem dec_step (s : ByteArray) (pos r n : Nat) (hp : pos < s.size) (hD : Utf8.decode s pos = (r, n)) (hn : Lib.NoAny s.data.toList signs pos) :
    (0 ≤ signIdx r → Lib.indexAny s.data.toList signs = pos) ∧ (¬ 0 ≤ signIdx r → Lib.NoAny s.data.toList signs (pos + n) ∧ pos + n ≤ s.size) := by
  by_cases h : (s.get! pos).toNat < 128
  · have e : s[pos]'hp = s.get! pos := (get_at s pos hp).symm
    have hd := decode_ascii s pos hp (by rw [e]; exact h)
    rw [hD, e] at hd
    obtain ⟨rfl, rfl⟩ := Prod.mk.inj hd
    have g := get_list s pos hp
    constructor
    · intro hs
      exact Lib.indexAny_hit hn g (by rw [sign_of]; exact decide_eq_true hs)
    · intro hs
      exact ⟨hn.succ g (by rw [sign_of]; exact decide_eq_false hs), hp⟩
  · have hi : 128 ≤ (s.get! pos).toNat := by omega
    have e : s[pos]'hp = s.get! pos := (get_at s pos hp).symm
    have h1 := (decode_high s pos hp (by rw [e]; exact hi)).1
    have h2 := dec_wide s pos hp hi
    rw [hD] at h1 h2
    simp only at h1 h2
    have hs : signIdx r = -1 := by
      unfold signIdx
      rw [if_neg (by omega), if_neg (by omega)]
    rw [hs]
    exact ⟨fun k => absurd k (by decide), fun _ => ⟨noAny_wide hn h2.1 h2.2, h2.1⟩⟩

theorem rune_any (r : Nat) (w : World) (h : r ≤ 2147483647) :
    Calls Tryz.prog 138 #[.string ⟨#[60, 62]⟩, .int .i32 (r : Int)] w fun e w' => e = .returned (.int .i64 (signIdx r)) ∧ Below w.heap.size w w' := by
  by_cases h1 : r < 128
  · exact (rune_ascii r w (by omega)).mono fun e w' ⟨he, hw⟩ => ⟨he, hw ▸ Below.refl _ _⟩
  have hs : signIdx r = -1 := by
    unfold signIdx
    rw [if_neg (by omega), if_neg (by omega)]
  rw [hs]
  by_cases h2 : r = 65533
  · subst h2; exact rune_error w
  · exact rune_high r w (by omega) (by omega)

set_option maxRecDepth 100000 in
set_option maxHeartbeats 1000000 in
theorem indexAny_short (s : ByteArray) (w : World) (h8 : s.size ≤ 8) :
    Calls Tryz.prog 98 #[.string s, .string ⟨#[60, 62]⟩] w fun e w' => e = .returned (.int .i64 (Lib.indexAny s.data.toList signs)) ∧ Below w.heap.size w w' := by
  have h8f : decide ((8 : Int) < (s.size : Int)) = false := decide_eq_false (by omega)
  go_enter Tryz.func98, Tryz.ntmps98
  go_wp2_with fail
  refine (useSet_any _ _).mono ?_
  rintro e w' ⟨rfl, rfl⟩
  rw [h8f]
  go_wp2_with fail
  go_loopw [] (fun wr => ∃ pos : Nat, wr.heap[w.heap.size]? = some (.stringIter s pos) ∧ Below w.heap.size w wr ∧ pos ≤ s.size ∧ Aside (Lib.NoAny s.data.toList signs pos)) (fun wr => s.size - wr.iterPos w.heap.size)
  case atStart => exact ⟨0, World.iter_heap w s 0, (Below.refl _ _).alloc (Nat.le_refl _) _, Nat.zero_le _, Lib.NoAny.zero _ _⟩
  case round =>
    obtain ⟨pos, hit, hbw, hle, HN⟩ := hrel
    have hpos0 := Lib.hid (iterPos_of hit)
    by_cases hp : pos < s.size
    · have hnx : ∀ ty, (Instr.next (.pointer (some ⟨w.heap.size, 0, none⟩)) true ty).run Tryz.prog wr = _ := fun ty => Lib.run_next_any_at wr w.heap.size s pos ty hit hp
      obtain ⟨r, n, hD⟩ : ∃ r n, Utf8.decode s pos = (r, n) := ⟨_, _, rfl⟩
      have hr : r ≤ 2147483647 := by have := decode_le s pos; rw [hD] at this; exact this
      have hn1 : 1 ≤ n := by have := width_one s pos; rw [hD] at this; exact this
      rw [hD] at hnx
      have hit2 := Lib.iterAt_heap wr w.heap.size s pos (pos + n) hit
      have hbw2 := Lib.below_iterAt hbw (k := w.heap.size) (Nat.le_refl _) s (pos + n)
      obtain ⟨W1, hW1⟩ : ∃ W1, W1 = wr.iterAt w.heap.size s (pos + n) := ⟨_, rfl⟩
      simp only [← hW1] at hnx hit2 hbw2
      have HK : Aside (W1.heap[w.heap.size]? = some (.stringIter s (pos + n)) ∧ Below w.heap.size w W1 ∧ Utf8.decode s pos = (r, n)) := ⟨hit2, hbw2, hD⟩
      clear hW1 hit hbw hit2 hbw2 hD
      by_cases hg : 0 ≤ signIdx r
      · have hgd : decide (0 ≤ signIdx r) = true := decide_eq_true hg
        go_wp2_with fail
        refine (rune_any _ _ hr).mono ?_
        rintro e w2 ⟨rfl, hb2⟩
        go_wp2_with fail
        go_ret
        exact ⟨by rw [(dec_step s pos r n hp HK.out.2.2 HN.out).1 hg]; rfl, HK.out.2.1.trans (hb2.mono HK.out.2.1.size)⟩
      · have hgd : decide (0 ≤ signIdx r) = false := decide_eq_false hg
        go_wp2_with fail
        refine (rune_any _ _ hr).mono ?_
        rintro e w2 ⟨rfl, hb2⟩
        go_wp2_with fail
        have hlt : w.heap.size < W1.heap.size := lt_of_block HK.out.1
        have hit3 : w2.heap[w.heap.size]? = some (.stringIter s (pos + n)) := (hb2.block _ hlt).trans HK.out.1
        obtain ⟨d1, d2⟩ := (dec_step s pos r n hp HK.out.2.2 HN.out).2 (by omega)
        go_roundw
        case rel => exact ⟨pos + n, hit3, HK.out.2.1.trans (hb2.mono HK.out.2.1.size), d2, d1⟩
        case measure => rw [iterPos_of hit3, hpos0.out]; omega
    · have hnx : ∀ ty, (Instr.next (.pointer (some ⟨w.heap.size, 0, none⟩)) true ty).run Tryz.prog wr = _ := fun ty => Lib.run_next_end_at wr w.heap.size s pos ty hit hp
      obtain rfl : pos = s.size := by omega
      have e : Lib.indexAny s.data.toList signs = -1 := Lib.indexAny_none (by rw [← Lib.size_eq]; exact HN.out)
      have E := Lib.hid e
      clear e
      go_wp2_with fail
      go_ret
      exact ⟨by rw [E.out]; rfl, hbw⟩

theorem indexAny_any (s : ByteArray) (w : World) (hs : s.size < 4294967281) :
    Calls Tryz.prog 98 #[.string s, .string ⟨#[60, 62]⟩] w fun e w' => e = .returned (.int .i64 (Lib.indexAny s.data.toList signs)) ∧ Below w.heap.size w w' := by
  by_cases h8 : s.size ≤ 8
  · exact indexAny_short s w h8
  · refine (Any.strings_IndexAny_long Tryz.lays153 (fun w => by kernel_rfl) (by kernel_rfl) s ⟨#[60, 62]⟩ w (by decide) (by omega) hs (by decide) (ascii_of_all (by decide))).mono fun e w' ⟨h1, h2⟩ => ⟨h1, ?_⟩
    rw [h2]
    exact ((Below.refl _ _).alloc (Nat.le_refl _) _).alloc (by simp) _
end Go.Proofs.YtbdmieelokmhiaaGreatDoor
