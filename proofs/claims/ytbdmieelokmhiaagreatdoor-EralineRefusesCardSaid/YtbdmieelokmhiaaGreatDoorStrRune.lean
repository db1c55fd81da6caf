/-
  strings.IndexByte, and strings.IndexRune in the string of the two signs: what each call returns.
-/
import Derived.Test.YtbdmieelokmhiaaGreatDoorStrPrefix
import Derived.Lib.Bytealg
import Derived.Laws.RangeAny
import Derived.Laws.RangeString
import Derived.WalkMore
import Derived.BigQuiet
import Derived.Deep.QuietTactic
set_option linter.unusedVariables false
namespace Go.Proofs.YtbdmieelokmhiaaGreatDoor
open Go.RowKit

set_option maxRecDepth 100000 in
set_option maxHeartbeats 400000 in
theorem lindexByte_any (s : ByteArray) (c : Int) (w : World) :
    Calls Tryz.prog 154 #[.string s, .int .u8 c] w fun e w' => e = .returned (.int .i64 (Lib.indexByte s.data.toList c.toNat.toUInt8)) ∧ w = w' := by
  have hr := Lib.hid (Lib.run_indexByteString (P := Tryz.prog) s c w)
  go_enter Tryz.func154, Tryz.ntmps154
  go_wp2
  rw [run_callFunc_extern Tryz.func178 (by kernel_rfl) (by kernel_rfl) (by kernel_rfl) (e := Extern.BytealgIndexByte.indexByte) (by kernel_rfl), hr.out]
  simp only [Result.andThen]
  rw [Oper.upon_value]
  go_wp2
  go_ret
  exact ⟨rfl, rfl⟩

set_option maxHeartbeats 400000 in
theorem indexByte_any (s : ByteArray) (c : Int) (w : World) :
    Calls Tryz.prog 167 #[.string s, .int .u8 c] w fun e w' => e = .returned (.int .i64 (Lib.indexByte s.data.toList c.toNat.toUInt8)) ∧ w = w' := by
  go_enter Tryz.func167, Tryz.ntmps167
  go_wp2_with (go_at_call 154; refine (lindexByte_any _ _ _).mono ?_; rintro e w' ⟨rfl, rfl⟩)
  go_ret
  exact ⟨rfl, rfl⟩

/-- which of the two signs a code point is -/
def signIdx (r : Int) : Int := if r = 60 then 0 else if r = 62 then 1 else -1

theorem idx_two {r : Int} (h : 0 ≤ r ∧ r < 128) : Lib.indexByte [60, 62] r.toNat.toUInt8 = signIdx r := by
  have e : ∀ b : Nat, b < 256 → (((UInt8.ofNat b) == r.toNat.toUInt8) = true ↔ r = b) := fun b hb => by
    rw [beq_iff_eq, ← UInt8.toNat_inj, UInt8.toNat_ofNat', Nat.toUInt8, UInt8.toNat_ofNat']
    omega
  have e1 := e 60 (by decide)
  have e2 := e 62 (by decide)
  unfold signIdx
  show (if (UInt8.ofNat 60 == r.toNat.toUInt8) = true then (0 : Int) else if ((if (UInt8.ofNat 62 == r.toNat.toUInt8) = true then (0 : Int) else if ((-1 : Int) == -1) = true then -1 else -1 + 1) == -1) = true then -1 else (if (UInt8.ofNat 62 == r.toNat.toUInt8) = true then (0 : Int) else if ((-1 : Int) == -1) = true then -1 else -1 + 1) + 1) = _
  by_cases h1 : r = 60
  · rw [if_pos (e1.2 h1), if_pos h1]
  · rw [if_neg (fun k => h1 (e1.1 k)), if_neg h1]
    by_cases h2 : r = 62
    · rw [if_pos (e2.2 h2), if_pos h2]; rfl
    · rw [if_neg (fun k => h2 (e2.1 k)), if_neg h2]; rfl

set_option maxRecDepth 100000 in
set_option maxHeartbeats 1000000 in
theorem rune_ascii (r : Int) (w : World) (h : 0 ≤ r ∧ r < 128) :
    Calls Tryz.prog 138 #[.string ⟨#[60, 62]⟩, .int .i32 r] w fun e w' => e = .returned (.int .i64 (signIdx r)) ∧ w = w' := by
  have HI := Lib.hid (idx_two h)
  have hw : IntKind.u8.wrap r = r := by rw [IntKind.wrap_u8]; omega
  go_enter Tryz.func138, Tryz.ntmps138
  go_wp2_with fail
  refine (indexByte_any _ _ _).mono ?_
  rintro e w1 ⟨rfl, rfl⟩
  go_wp2_with fail
  go_ret
  exact ⟨by rw [← HI.out]; rfl, rfl⟩

set_option maxRecDepth 100000 in
set_option maxHeartbeats 1000000 in
theorem rune_error (w : World) :
    Calls Tryz.prog 138 #[.string ⟨#[60, 62]⟩, .int .i32 65533] w fun e w' => e = .returned (.int .i64 (-1)) ∧ Below w.heap.size w w' := by
  have n0 := fun (W : World) (ty : TypeId) => run_next_any (P := Tryz.prog) W ⟨#[60, 62]⟩ 0 ty (by decide)
  have n1 := fun (W : World) (ty : TypeId) => run_next_any (P := Tryz.prog) W ⟨#[60, 62]⟩ 1 ty (by decide)
  have n2 := fun (W : World) (ty : TypeId) => run_next_end (P := Tryz.prog) W ⟨#[60, 62]⟩ 2 ty (by decide)
  have d0 : Utf8.decode ⟨#[60, 62]⟩ 0 = (60, 1) := by decide +kernel
  have d1 : Utf8.decode ⟨#[60, 62]⟩ 1 = (62, 1) := by decide +kernel
  simp only [d0, d1] at n0 n1
  go_enter Tryz.func138, Tryz.ntmps138
  go_wp2_with fail
  refine wp_loop_rounds 3 ?_
  rw [rounds_succ]
  go_wp2
  rw [rounds_succ]
  go_wp2
  rw [rounds_succ]
  go_wp2
  go_ret
  exact ⟨rfl, (Below.refl _ w).alloc (Nat.le_refl _) (.stringIter _ 2)⟩

theorem quiet_left {P : Program} {f : FuncId} {args : Array Value} {w : World} {n : Nat} {v : Value}
    (h : Calls P f args (w.drewN n) fun e w' => e = .returned v ∧ w.drewN n = w') : Calls P f args (w.drewN n) fun e w'' => e = .returned v ∧ ∃ m, w'' = w.drewN m :=
  h.mono fun _ _ ⟨he, hm⟩ => ⟨he, n, hm.symm⟩
theorem quiet_add_left {P : Program} {f : FuncId} {args : Array Value} {w : World} {a n : Nat} {v : Value}
    (h : Calls P f args (w.drewN (a + n)) fun e w' => e = .returned v ∧ w.drewN (a + n) = w') :
    Calls P f args (w.drewN (a + n)) fun e w'' => e = .returned v ∧ ∃ m, w'' = w.drewN (a + m) :=
  h.mono fun _ _ ⟨he, hm⟩ => ⟨he, n, hm.symm⟩
theorem bytes2 {E : ByteArray} (h : E.size = 2) : ∃ a b, E = ⟨#[a, b]⟩ := by
  obtain ⟨⟨l⟩⟩ := E
  match l, h with
  | [a, b], _ => exact ⟨a, b, rfl⟩

set_option maxRecDepth 100000 in
set_option maxHeartbeats 1000000 in
theorem rune_high (r : Int) (w : World) (h : 128 ≤ r ∧ r ≤ 2147483647) (hne : r ≠ 65533) :
    Calls Tryz.prog 138 #[.string ⟨#[60, 62]⟩, .int .i32 r] w fun e w' => e = .returned (.int .i64 (-1)) ∧ Below w.heap.size w w' := by
  have hb : (r == 65533) = false := beq_eq_false_iff_ne.2 hne
  by_cases h1 : 1114111 < r
  · go_enter Tryz.func138, Tryz.ntmps138
    go_wp2
    go_ret
    exact ⟨rfl, Below.refl _ _⟩
  by_cases h2 : 55296 ≤ r ∧ r ≤ 57343
  · obtain ⟨h2a, h2b⟩ := h2
    go_enter Tryz.func138, Tryz.ntmps138
    go_wp2
    go_ret
    exact ⟨rfl, Below.refl _ _⟩
  have hv : Utf8.valid r = true := by simp [Utf8.valid]; omega
  obtain ⟨E, hE, e1, e2, e3⟩ : ∃ E, Utf8.encode r = E ∧ 2 ≤ E.size ∧ E.size ≤ 4 ∧ ∀ h : E.size - 1 < E.size, 128 ≤ (E[E.size - 1]'h).toNat := ⟨_, rfl, encode_facts r hv h.1⟩
  have hl := e3 (by omega)
  clear e3 hv
  by_cases h5 : E.size = 2
  · obtain ⟨a, b, rfl⟩ := bytes2 h5
    have hb1 : ((62 : Int) != (b.toNat : Int)) = true := by
      have : 128 ≤ b.toNat := hl
      rw [bne_iff_ne]; omega
    clear hl e1 e2 h5
    have g1 : ∀ h, ((⟨#[60, 62]⟩ : ByteArray)[1]'h).toNat = 62 := fun _ => rfl
    have g2 : ∀ h, ((⟨#[a, b]⟩ : ByteArray)[1]'h).toNat = b.toNat := fun _ => rfl
    by_cases h3 : r < 55296
    all_goals
      go_enter Tryz.func138, Tryz.ntmps138
      go_wp2
      go_step3
      go_wp2
      refine wp_loop_rounds 1 ?_
      rw [rounds_succ]
      go_wp2
      go_step3
      go_wp2
      go_quiet (fail)
      go_wp2
      go_quiet ((go_at_call 167; first | exact quiet_add_left (indexByte_any _ _ _) | exact quiet_left (indexByte_any _ _ _)))
      go_wp2
      rw [Exit.noGoto_ret]
      go_wp2
      rw [Exit.noGoto_ret]
      go_ret
      exact ⟨rfl, below_drewN (Below.refl _ _) _⟩
  · have h6 : (2 : Int) ≤ (E.size : Int) - 1 := by omega
    clear hl
    by_cases h3 : r < 55296
    all_goals
      go_enter Tryz.func138, Tryz.ntmps138
      go_wp2
      go_step3
      go_wp2
      refine wp_loop_rounds 1 ?_
      rw [rounds_succ]
      go_wp2
      rw [Exit.noGoto_ret]
      go_ret
      exact ⟨rfl, Below.refl _ _⟩
end Go.Proofs.YtbdmieelokmhiaaGreatDoor
