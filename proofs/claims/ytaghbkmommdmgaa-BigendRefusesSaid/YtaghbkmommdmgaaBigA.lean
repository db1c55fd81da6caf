/-
  bytes.Clone, bytes.Equal, bigend.size, bigend.Bytes: what each call returns.
-/
import Derived.Test.YtaghbkmommdmgaaWords
import Derived.Test.YtaghbkmommdmgaaProg
import Derived.Test.YtaghbkmommdmgaaBigPlain
namespace Go.Proofs.Ytaghbkmommdmgaa
open Go.RowKit

def bys (xs : List Int) : List Value := xs.map (Value.int .u8)
theorem bys_one (xs : List Int) : ∀ u ∈ bys xs, u.oneCell' = true := by
  intro u hu; obtain ⟨x, _, rfl⟩ := List.mem_map.1 hu; rfl
theorem bys_length (xs : List Int) : (bys xs).length = xs.length := by simp [bys]
theorem bys_append (xs ys : List Int) : bys (xs ++ ys) = bys xs ++ bys ys := by simp [bys]
theorem bys_drop (xs : List Int) (k : Nat) : (bys xs).drop k = bys (xs.drop k) := by simp [bys]
theorem bys_take (xs : List Int) (k : Nat) : (bys xs).take k = bys (xs.take k) := by simp [bys]

/-- a slice of n bytes that reads as xs and lies below the heap's end -/
def Rd (w : World) (A : Option Addr) (n : Nat) (xs : List Int) : Prop := Reads w w.heap.size 1 A n (bys xs)
theorem Rd.len {w : World} {A : Option Addr} {n : Nat} {xs : List Int} (h : Rd w A n xs) : xs.length = n := by simpa [bys] using h.1
theorem Rd.below {w w' : World} {A : Option Addr} {n : Nat} {xs : List Int} (h : Rd w A n xs) (hb : Below w.heap.size w w') : Rd w' A n xs :=
  (Reads.below h hb).more hb.size
theorem Rd.in_ {w : World} {A : Option Addr} {n : Nat} {xs : List Int} (h : Rd w A n xs) : Lib.BytesIn w A n xs := by
  intro hn
  have hl := h.len
  obtain ⟨ad, rfl, _, hc⟩ := h.2 hn
  have hin : Lib.BytesIn w (some ad) n xs := Lib.BytesIn.of_cells fun i hi => hc i _ (by simp [bys, List.getElem?_eq_getElem (show i < xs.length by omega)])
  exact hin hn

/-- a row of bytes of the call's own, not empty: where it lies -/
theorem own_at {w : World} {base n : Nat} {v : Value} {xs : List Int} (h : w.ownsRow base 5 1 v n (bys xs)) (hn : 0 < n) :
    ∃ g cap, v = .slice (some ⟨g, 0, none⟩) n cap ∧ n ≤ cap ∧ base ≤ g ∧ g < w.heap.size ∧ ∀ i, i < n → w.cell? ⟨g, i, none⟩ = some (.int .u8 (xs.getD i 0)) := by
  obtain ⟨g, cap, hv, hbg, hlt⟩ := h.form hn
  obtain ⟨A, c, hv', hc, _⟩ := own_slice h
  have hl : xs.length = n := by simpa [bys] using h.1
  refine ⟨g, cap, hv, ?_, hbg, hlt, fun i hi => ?_⟩
  · rw [hv] at hv'; injection hv' with _ _ hcc; omega
  · subst hv
    have := h.cells (g := g) rfl i (.int .u8 (xs.getD i 0)) (by simp [bys, List.getD, List.getElem?_eq_getElem (show i < xs.length by omega)])
    by_cases h0 : i = 0 <;> simpa [Addr.add, h0] using this

theorem Try.info_u8 : (Try.prog.info? 5).map (fun i => (i.zero, i.size, i.bytes)) = some (some (.int .u8 0), 1, 1) := by kernel_rfl

/-- the call returns a row of its own, and nothing that was there has turned -/
def RetOwn (w : World) (n : Nat) (xs : List Int) (e : Ending) (w' : World) : Prop :=
  ∃ v, e = .returned v ∧ w'.ownsRow w.heap.size 5 1 v n (bys xs) ∧ Below w.heap.size w w'

set_option maxHeartbeats 400000 in
theorem clone_nil (n c : Nat) (w : World) : Calls Try.prog 9 #[.slice none n c] w fun e w' => e = .returned (.slice none 0 0) ∧ w = w' := by
  have q22 : ∀ (w : World) (a : Option Addr) (n c n' c' : Nat), (binOp .eql 22 (.slice a n c) (.slice none n' c')).run Try.prog w = .ok (.bool a.isNone) w := fun w a n c n' c' => Lib.run_eql_slice_nil w _ _ a n c n' c' Try.underlying22
  go_enter Try.func9, Try.ntmps9
  go_wp2
  go_ret
  exact ⟨rfl, rfl⟩

set_option maxHeartbeats 400000 in
theorem clone_any (A : Option Addr) (n c : Nat) (xs : List Int) (w : World) (h : Rd w A n xs) (hn : n ≤ 140737488355328) :
    Calls Try.prog 9 #[.slice A n c] w (RetOwn w n xs) := by
  rcases A with _ | a
  · have h0 : n = 0 := by
      rcases Nat.eq_zero_or_pos n with h0 | h0
      · exact h0
      · obtain ⟨ad, hh, _⟩ := h.2 h0
        cases hh
    subst h0
    obtain rfl : xs = [] := List.eq_nil_of_length_eq_zero h.len
    exact (clone_nil _ _ _).mono fun e w' ⟨he, hw⟩ => by subst hw; exact ⟨_, he, World.ownsRow_nil _ _ _ _, Below.refl _ _⟩
  · have q22 : ∀ (w : World) (a : Option Addr) (n c n' c' : Nat), (binOp .eql 22 (.slice a n c) (.slice none n' c')).run Try.prog w = .ok (.bool a.isNone) w := fun w a n c n' c' => Lib.run_eql_slice_nil w _ _ a n c n' c' Try.underlying22
    obtain ⟨i0, hi, hz0, hz1, hz2⟩ := info_parts Try.info_u8
    have H := Lib.hid h
    clear h
    go_enter Try.func9, Try.ntmps9
    go_wp2_with (at_builtin; refine wpList_append_any _ rfl (.tmp 5) (.tmp 6) 22 rfl w.heap.size 5 i0 _ 1 1 Try.underlying22 hi hz0 hz1 hz2 rfl (by decide) _ _ _ rfl (World.ownsRow_made w #[] 0 (Nat.le_refl _) (Nat.zero_le _) rfl) w.heap.size (some a) n c (bys xs) rfl (Reads.alloc H.out (Nat.le_refl _) _) (bys_one xs) ?c1 ?c2 ?c3 ?_)
    case c1 => unfold maxLen; omega
    case c2 => omega
    case c3 => simp
    intro v' w1 hown hgrow _
    go_wp2
    go_ret
    exact ⟨v', rfl, by simpa using hown, ((Below.refl _ w).alloc (Nat.le_refl _) _).grown hgrow (by simp) (by intro k hk; simp [Value.ownBlock] at hk; omega)⟩

set_option maxHeartbeats 400000 in
theorem equal_same (A A' : Option Addr) (n n' c c' : Nat) (xs : List Int) (w : World) (h : Rd w A n xs) (h' : Rd w A' n' xs) :
    Calls Try.prog 16 #[.slice A n c, .slice A' n' c'] w fun e w' => e = .returned (.bool true) ∧ w = w' := by
  have k1 := Lib.BytesIn.convert (P := Try.prog) h.in_ h.len c 22 5 9 Try.underlying22 Try.underlying5 Try.underlying9
  have k2 := Lib.BytesIn.convert (P := Try.prog) h'.in_ h'.len c' 22 5 9 Try.underlying22 Try.underlying5 Try.underlying9
  clear h h'
  go_enter Try.func16, Try.ntmps16
  go_wp2
  go_ret
  exact ⟨rfl, rfl⟩

set_option maxHeartbeats 400000 in
theorem size_any (n : Int) (w : World) : Calls Try.prog 19 #[.int .i64 n] w fun e w' => e = .returned (.bool (isSize n)) ∧ w = w' := by
  by_cases h1 : n = 1
  · subst h1
    go_enter Try.func19, Try.ntmps19
    go_wp2
    go_ret
    exact ⟨rfl, rfl⟩
  by_cases h4 : n = 4
  · subst h4
    go_enter Try.func19, Try.ntmps19
    go_wp2
    go_ret
    exact ⟨rfl, rfl⟩
  by_cases h8 : n = 8
  · subst h8
    go_enter Try.func19, Try.ntmps19
    go_wp2
    go_ret
    exact ⟨rfl, rfl⟩
  have e1 : (n == 1) = false := beq_eq_false_iff_ne.2 h1
  have e4 : (n == 4) = false := beq_eq_false_iff_ne.2 h4
  have e8 : (n == 8) = false := beq_eq_false_iff_ne.2 h8
  have HS := Lib.hid (show isSize n = false by simp [isSize, e1, e4, e8])
  clear h1 h4 h8
  go_enter Try.func19, Try.ntmps19
  go_wp2
  go_ret
  exact ⟨by rw [HS.out]; rfl, rfl⟩
end Go.Proofs.Ytaghbkmommdmgaa
