/-
  bigend.Bytes, bigend.Get: what each call returns.
-/
import Derived.Test.YtaghbkmommdmgaaBigA
import Derived.BigQuiet
import Derived.Deep.QuietTactic
namespace Go.Proofs.Ytaghbkmommdmgaa
open Go.RowKit

/-- the call returns a row of its own and an error, and nothing that was there has turned -/
def RetOwnE (w : World) (r : List Int × Int) (e : Ending) (w' : World) : Prop :=
  ∃ v, e = .returned (.tuple #[v, .int .i64 r.2]) ∧ w'.ownsRow w.heap.size 5 1 v r.1.length (bys r.1) ∧ Below w.heap.size w w'

set_option maxHeartbeats 400000 in
theorem bytes_any (A : Option Addr) (m c : Nat) (xs : List Int) (a n : Int) (w : World) (h : Rd w A m xs) (hl : m ≤ 140737488355328) (hc : m ≤ c) :
    Calls Try.prog 14 #[.slice A m c, .int .i64 a, .int .i64 n] w (RetOwnE w (bytesR xs a n)) := by
  obtain rfl := h.len
  have H := Lib.hid h
  clear h
  by_cases h1 : n < 0
  · have HR := Lib.hid (show bytesR xs a n = ([], 2) by simp [bytesR, h1])
    go_enter Try.func14, Try.ntmps14
    go_wp2
    go_ret2
    rw [HR.out]
    exact ⟨_, rfl, World.ownsRow_nil _ _ _ _, Below.refl _ _⟩
  by_cases h2 : a < 0
  · have HR := Lib.hid (show bytesR xs a n = ([], 19) by simp [bytesR, h1, h2])
    go_enter Try.func14, Try.ntmps14
    go_wp2
    go_ret2
    rw [HR.out]
    exact ⟨_, rfl, World.ownsRow_nil _ _ _ _, Below.refl _ _⟩
  by_cases h3 : (xs.length : Int) < a
  · have HR := Lib.hid (show bytesR xs a n = ([], 19) by simp [bytesR, h1, h3])
    go_enter Try.func14, Try.ntmps14
    go_wp2
    go_ret2
    rw [HR.out]
    exact ⟨_, rfl, World.ownsRow_nil _ _ _ _, Below.refl _ _⟩
  by_cases h4 : (xs.length : Int) - a < n
  · have HR := Lib.hid (show bytesR xs a n = ([], 19) by simp [bytesR, h1, h4])
    go_enter Try.func14, Try.ntmps14
    go_wp2
    go_ret2
    rw [HR.out]
    exact ⟨_, rfl, World.ownsRow_nil _ _ _ _, Below.refl _ _⟩
  have HR := Lib.hid (show bytesR xs a n = ((xs.drop a.toNat).take n.toNat, 0) by simp [bytesR, h1, h2, h3, h4])
  go_enter Try.func14, Try.ntmps14
  go_wp2_with fail
  all_goals
    have hq : Rd w (if c = a.toNat then A else A.map (·.add a.toNat)) ((a + n).toNat - a.toNat) ((xs.drop a.toNat).take n.toNat) := by
      have h1 := (Reads.cut H.out (k := a.toNat) (cap := c) (by omega) hc).take (k := n.toNat) (by omega)
      rw [show (a + n).toNat - a.toNat = n.toNat by omega]
      simpa [Rd, bys_drop, bys_take] using h1
    first
      | (rw [if_pos (by assumption)] at hq)
      | (rw [if_neg (by assumption)] at hq)
    refine (clone_any _ _ _ _ _ hq (by omega)).mono ?_
    rintro e w' ⟨v, rfl, hown, hb⟩
    go_wp2
    go_ret2
    rw [HR.out]
    refine ⟨v, rfl, ?_, hb⟩
    rw [hq.len]
    exact hown

/-- the call returns a number and an error, and nothing that was there has turned -/
def RetNumE (w : World) (r : Int × Int) (e : Ending) (w' : World) : Prop :=
  e = .returned (.tuple #[.int .i64 r.1, .int .i64 r.2]) ∧ Below w.heap.size w w'

set_option maxHeartbeats 400000 in
theorem get_any (A : Option Addr) (m c : Nat) (xs : List Int) (a n : Int) (w : World) (h : Rd w A m xs) (hl : m ≤ 140737488355328) (hc : m ≤ c) (hx : ∀ x ∈ xs, 0 ≤ x ∧ x < 256) :
    Calls Try.prog 12 #[.slice A m c, .int .i64 a, .int .i64 n] w (RetNumE w (getR xs a n)) := by
  have H := Lib.hid h
  clear h
  cases hs : isSize n
  · have HR := Lib.hid (show getR xs a n = (0, 2) by simp [getR, hs])
    go_enter Try.func12, Try.ntmps12
    go_wp2_with (go_at_call 19; refine (size_any _ _).mono ?_; rintro e w' ⟨rfl, rfl⟩)
    go_ret2
    rw [HR.out]
    exact ⟨rfl, Below.refl _ _⟩
  have hB := Lib.hid (bytes_any A m c xs a n w H.out hl hc)
  have HR := Lib.hid (show getR xs a n = if (bytesR xs a n).2 ≠ 0 then (0, (bytesR xs a n).2) else (numOf (bytesR xs a n).1, 0) by simp [getR, hs])
  have HX := Lib.hid (show ∀ x ∈ (bytesR xs a n).1, 0 ≤ x ∧ x < 256 by
    unfold bytesR; split
    · simp
    · split
      · simp
      · exact fun x hx' => hx x (List.mem_of_mem_drop (List.mem_of_mem_take hx')))
  have HL := Lib.hid (show (bytesR xs a n).2 = 0 → ((bytesR xs a n).1.length : Int) = n by
    unfold bytesR; split
    · simp
    · split
      · simp
      · rename_i h2; intro _; simp only [List.length_take, List.length_drop]; omega)
  generalize bytesR xs a n = r at *
  obtain ⟨l, er⟩ := r
  clear hx
  by_cases he : er = 0
  · subst he
    simp only [ne_eq, not_true_eq_false, if_false] at HR HL
    have hn1 : 1 ≤ n ∧ n ≤ 8 := by rcases isSize_iff.1 hs with h | h | h <;> omega
    have hln : (l.length : Int) = n := HL.out trivial
    match l, hln, hB, HR, HX with
    | [], hln, _, _, _ => simp at hln; omega
    | c0 :: cs, hln, hB, HR, HX =>
    have hcl : (cs.length : Int) + 1 = n := by simpa using hln
    have hc0 := HX.out c0 (by simp)
    clear HL hln
    have e8 : wrap64 (IntKind.i8.wrap c0) = sgn8 c0 := wrap_sgn8 hc0
    go_enter Try.func12, Try.ntmps12
    go_wp2_with (first | (go_at_call 19; refine (size_any _ _).mono ?_; rintro e w' ⟨rfl, rfl⟩) | (go_at_call 14; refine hB.out.mono ?_; rintro e w' ⟨v, rfl, hown, hb⟩; obtain ⟨g, cap, rfl, hcap, hg, hg', hcs⟩ := own_at hown (by simp); have h00 : w'.cell? ⟨g, 0, none⟩ = some (.int .u8 c0) := by simpa using hcs 0 (by simp)))
    all_goals
      go_loop [10, 34] (fun x i => ∃ k : Nat, k ≤ cs.length ∧ i = .int .i64 k ∧ x = .int .i64 (foldB (sgn8 c0) (cs.take k))) (fun _ i => cs.length - (intOf i).toNat)
      case atStart => exact ⟨0, Nat.zero_le _, rfl, rfl⟩
      case round =>
        obtain ⟨k, hk, rfl, rfl⟩ := hrel
        by_cases hlt : k < cs.length
        · have hx1 : ¬ cap = 1 := by simp at hcap; omega
          first | (exfalso; omega) | (
          have hck := hcs (1 + k) (by simp; omega)
          have hmem : cs.getD k 0 ∈ cs := by simp [List.getD, List.getElem?_eq_getElem hlt]
          have hcb := HX.out _ (List.mem_cons_of_mem c0 hmem)
          have hfb := foldB_bd6 (sgn8 c0) (sgn8_bd hc0) (cs.take k) (fun c hc => HX.out c (List.mem_cons_of_mem _ (List.mem_of_mem_take hc))) (by simp; omega)
          have HS := Lib.hid (show foldB (sgn8 c0) (cs.take (k + 1)) = foldB (sgn8 c0) (cs.take k) * 256 + cs.getD k 0 by rw [take_snoc_getD cs k hlt, foldB_snoc])
          rw [Nat.add_comm 1 k, List.getD_cons_succ, Nat.add_comm k 1] at hck
          generalize foldB (sgn8 c0) (cs.take k) = F at *
          generalize cs.getD k 0 = ck at *
          have hor := or_low F ck hfb hcb
          clear hcs hmem
          go_wp2
          go_round
          case rel => exact ⟨k + 1, by omega, by go_num, by rw [HS.out]⟩
          case measure => simp [intOf]; omega)
        · go_wp2
          go_ret2
          rw [HR.out, numOf]
          refine ⟨?_, hb⟩
          rw [List.take_of_length_le (by omega)]
          rfl
  · have he' : (er != 0) = true := by simp [he]
    go_enter Try.func12, Try.ntmps12
    go_wp2_with (first | (go_at_call 19; refine (size_any _ _).mono ?_; rintro e w' ⟨rfl, rfl⟩) | (go_at_call 14; refine hB.out.mono ?_; rintro e w' ⟨v, rfl, hown, hb⟩))
    go_ret2
    rw [HR.out, if_pos he]
    exact ⟨rfl, hb⟩
end Go.Proofs.Ytaghbkmommdmgaa
