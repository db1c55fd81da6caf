/-
  word.numbered, word.Week, dayspec.week: what each call returns.
-/
import Derived.Test.YtbdmieelokmhiaaGreatDoorWordFind
set_option linter.unusedVariables false
namespace Go.Proofs.YtbdmieelokmhiaaGreatDoor
open Go.RowKit

def wordF (ws : List (List UInt8)) (s : List UInt8) : Nat × Bool := findP (begTo (smallL s) ws ws.length) (smallL s)
/-- the number of a word of a list whose first one has the number f, and the error -/
def wordR (ws : List (List UInt8)) (f : Int) (s : List UInt8) : Int × Int := if (wordF ws s).2 = true then (f + (wordF ws s).1, 0) else (0, 8)

theorem begTo_mem {s : List UInt8} {ws : List (List UInt8)} {k : Nat} {p : Nat × List UInt8} (h : p ∈ begTo s ws k) : p.1 < k ∧ p.2 = ws[p.1]?.getD [] := by
  simp only [begTo, pairs, List.mem_filter, List.mem_map, List.mem_range] at h
  obtain ⟨⟨j, hj, rfl⟩, _⟩ := h
  exact ⟨hj, rfl⟩
theorem findP_lt {ps : List (Nat × List UInt8)} {s : List UInt8} {n : Nat} (h : ∀ p ∈ ps, p.1 < n) : (findP ps s).1 < n + 1 := by
  unfold findP
  split
  · rename_i p hp
    have := h p (List.mem_of_find?_eq_some hp)
    simp only; omega
  · simp only
    cases hl : ps.getLast? with
    | none => simp
    | some p =>
      have := h p (List.mem_of_getLast? hl)
      simp; omega
theorem wordF_lt (ws : List (List UInt8)) (s : List UInt8) : (wordF ws s).1 < ws.length + 1 := findP_lt fun p hp => (begTo_mem hp).1

set_option maxHeartbeats 400000 in
theorem numbered_any (sv : Value) (ws : List (List UInt8)) (f : Int) (s : ByteArray) (w : World) (hW : Words w.heap.size w sv ws) (hlen : ws.length ≤ 100) (hs : s.size ≤ 1048576) (hf : 0 ≤ f ∧ f ≤ 100) :
    Calls Tryz.prog 97 #[sv, .int .i64 f, .string s] w fun e w' => e = .returned (.tuple #[.int .i64 (wordR ws f s.data.toList).1, .int .i64 (wordR ws f s.data.toList).2]) ∧ Below w.heap.size w w' := by
  have HF := Lib.hid (find_any sv ws s w hW hlen hs)
  have hl := wordF_lt ws s.data.toList
  have HR := Lib.hid (show wordR ws f s.data.toList = if (wordF ws s.data.toList).2 = true then (f + (wordF ws s.data.toList).1, 0) else (0, 8) from rfl)
  have HD := Lib.hid (show findP (begTo (smallL s.data.toList) ws ws.length) (smallL s.data.toList) = wordF ws s.data.toList from rfl)
  clear hW
  generalize wordF ws s.data.toList = r at *
  obtain ⟨i, b⟩ := r
  simp only at hl
  go_enter Tryz.func97, Tryz.ntmps97
  go_wp2_with fail
  refine HF.out.mono ?_
  rintro e w1 ⟨rfl, hb⟩
  rw [HD.out]
  cases b
  · go_wp2_with fail
    go_ret2
    rw [HR.out]
    exact ⟨rfl, hb⟩
  · go_wp2_with fail
    go_ret2
    rw [HR.out]
    exact ⟨rfl, hb⟩

theorem weeks_words {w : World} (h : Weeks w) : Words w.heap.size w (.slice (some ⟨7, 0, none⟩) 7 7) weekL :=
  ⟨_, 7, rfl, block_lt_of_cell (h 0 _ rfl), fun j l hl => h j l hl⟩

set_option maxHeartbeats 400000 in
theorem week_any (s : ByteArray) (w : World) (hW : Weeks w) (hs : s.size ≤ 1048576) :
    Calls Tryz.prog 143 #[.string s] w fun e w' => e = .returned (.tuple #[.int .i64 (wordR weekL 0 s.data.toList).1, .int .i64 (wordR weekL 0 s.data.toList).2]) ∧ Below w.heap.size w w' := by
  have HN := Lib.hid (numbered_any _ weekL 0 s w (weeks_words hW) (by decide) hs (by decide))
  clear hW
  go_enter Tryz.func143, Tryz.ntmps143
  go_wp2_with fail
  refine HN.out.mono ?_
  rintro e w1 ⟨rfl, hb⟩
  go_wp2_with fail
  go_ret2
  exact ⟨rfl, hb⟩

/-- the weekday of a word, and the error -/
def weekR (s : List UInt8) : Int × Int := if (wordF weekL s).2 = true then ((wordF weekL s).1, 0) else (0, 8)
theorem weekR_eq (s : List UInt8) : wordR weekL 0 s = weekR s := by simp [wordR, weekR]

set_option maxHeartbeats 400000 in
theorem dweek_any (s : ByteArray) (w : World) (hW : Weeks w) (hs : s.size ≤ 1048576) :
    Calls Tryz.prog 101 #[.string s] w fun e w' => e = .returned (.tuple #[.int .i64 (weekR s.data.toList).1, .int .i64 (weekR s.data.toList).2]) ∧ Below w.heap.size w w' := by
  have HN := Lib.hid (week_any s w hW hs)
  rw [weekR_eq] at HN
  have HR := Lib.hid (show weekR s.data.toList = if (wordF weekL s.data.toList).2 = true then (((wordF weekL s.data.toList).1 : Int), (0 : Int)) else (0, 8) from rfl)
  clear hW
  cases hb : (wordF weekL s.data.toList).2
  · rw [hb, if_neg (by decide)] at HR
    rw [HR.out] at HN ⊢
    go_enter Tryz.func101, Tryz.ntmps101
    go_wp2_with fail
    refine HN.out.mono ?_
    rintro e w1 ⟨rfl, hb⟩
    go_wp2_with fail
    go_ret2
    exact ⟨rfl, hb⟩
  · rw [hb, if_pos rfl] at HR
    rw [HR.out] at HN ⊢
    go_enter Tryz.func101, Tryz.ntmps101
    go_wp2_with fail
    refine HN.out.mono ?_
    rintro e w1 ⟨rfl, hb⟩
    go_wp2_with fail
    go_ret2
    exact ⟨rfl, hb⟩
end Go.Proofs.YtbdmieelokmhiaaGreatDoor
