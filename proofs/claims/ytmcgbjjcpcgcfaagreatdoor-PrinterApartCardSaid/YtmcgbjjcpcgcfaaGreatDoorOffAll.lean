/-
  Numerals by strconv; offset.two, offset.Print: what the calls return.
  offset.Parse: the digits that its closure takes.
  offset.Parse: what the call returns.
  ruleline.year: numerals of one to four digits; what the call returns.
  clock.letters, clock.cut, clock.Parse, clock.Check, clock.Print: what each call returns.
  name.kinds, name.of, its closure, name.Set, name.Letter: what each call returns.
  word.Month, word.To, word.MonthText: what each call returns.
  Results: a struct in memory, and a slot.
  Plain facts that readers and printers of lines share: years, words, days, amounts, clocks, and lines cut at spaces.
  Rows of strings in memory.
-/
import Derived.Test.YtmcgbjjcpcgcfaaGreatDoorDayAll
import Derived.Test.YtmcgbjjcpcgcfaaGreatDoorShelf2
import Derived.Lib.ItoaMem
import Derived.Lib.SmallJoins
import Derived.Shelf.Strconv.ErrVarParseInt
import Derived.Lib.AtoiErrMem
import Derived.Deep.DeepCutAuto
import Derived.Deep.CutBlock
import Derived.Shelf.Strconv.ErrVarAll
import Derived.Shelf.Strconv.AtoiAll
import Derived.Handy
import Derived.Outline
import Derived.Deep.QuietTactic
import Derived.BigQuiet
import Derived.Deep.RegionHeld3
import Derived.Deep.MidRow
import Derived.Laws.OwnMore
import Derived.Deep.AppendLies
import Derived.OwnWalk
set_option linter.unusedVariables false
namespace Go.Proofs.YtmcgbjjcpcgcfaaGreatDoor
open Go.RowKit

/-- the table of the powers of ten, as strconv asks for it -/
def Pows (w : World) : Prop := Lib.TabIs Tryz.prog w "internal/strconv.uint64pow10" .u64 Lib.pow10Tab
theorem gPows : Tryz.prog.globalNamed "internal/strconv.uint64pow10" = some 3 := by kernel_rfl
theorem Pows.below {w w' : World} (h : Pows w) (hb : Below w.heap.size w w') : Pows w' := Joins.var_stays gPows h hb (Nat.le_refl _)

theorem below_laid (w : World) (q : Nat) (os : Array Obj) : Below w.heap.size w (Sort.grow (w.drewN q) os) :=
  ⟨rfl, rfl, rfl, by simp [Sort.grow], fun i hi => by
    show ((w.drewN q).heap ++ os)[i]? = _
    rw [Array.getElem?_append_left (by exact hi)]
    rfl⟩

theorem fmt_any (n : Nat) (w : World) (hP : Pows w) (h : n < 1000000000) :
    Calls Tryz.prog 89 #[.int .i64 (n : Int), .int .i64 10] w fun e w' => e = .returned (.string ⟨(Lib.decDigits n).toArray⟩) ∧ Below w.heap.size w w' := by
  refine (Any.strconv_FormatInt_10 Tryz.laysM173 (n : Int) (by omega) (by omega) w hP).mono ?_
  rintro e w' ⟨h1, k, os, rfl⟩
  rw [Lib.itoa_nonneg] at h1
  exact ⟨h1, below_laid _ _ _⟩
theorem itoa_any (n : Int) (w : World) (hP : Pows w) (h0 : -9223372036854775808 ≤ n) (h1 : n ≤ 9223372036854775807) :
    Calls Tryz.prog 59 #[.int .i64 n] w fun e w' => e = .returned (.string ⟨(Lib.itoa n).toArray⟩) ∧ Below w.heap.size w w' := by
  refine (Any.strconv_Itoa Tryz.laysM171 n h0 h1 w hP).mono ?_
  rintro e w' ⟨h1, k, os, rfl⟩
  exact ⟨h1, below_laid _ _ _⟩

def twoT (n : Nat) : List UInt8 := if n < 10 then 48 :: Lib.decDigits n else Lib.decDigits n
def offT (x : Nat) : List UInt8 := Lib.decDigits (x / 3600) ++ [58] ++ twoT (x / 60 % 60) ++ (if x % 60 ≠ 0 then [58] ++ twoT (x % 60) else [])
def offPrintR (x : Int) : List UInt8 × Int := if x < -604799 ∨ 604799 < x then ([], 3) else ((if x < 0 then [45] else []) ++ offT x.natAbs, 0)

theorem dig_len (n : Nat) (h : n < 1000) : (Lib.decDigits n).length ≤ 3 := by
  have h' : ∀ n : Fin 1000, (Lib.decDigits n.val).length ≤ 3 := by decide +kernel
  exact h' ⟨n, h⟩
theorem twoT_len (n : Nat) (h : n < 100) : (twoT n).length ≤ 2 := by
  have h' : ∀ n : Fin 100, (twoT n.val).length ≤ 2 := by decide +kernel
  exact h' ⟨n, h⟩

set_option maxRecDepth 100000 in
set_option maxHeartbeats 1000000 in
theorem two_any (n : Nat) (w : World) (h : n < 100) (hP : Pows w) :
    Calls Tryz.prog 90 #[.int .i64 (n : Int)] w fun e w' => e = .returned (.string ⟨(twoT n).toArray⟩) ∧ Below w.heap.size w w' := by
  have hl := dig_len n (by omega)
  have HF := Lib.hid (fmt_any n w hP (by omega))
  by_cases h10 : n < 10
  · have HT := Lib.hid (show twoT n = 48 :: Lib.decDigits n from if_pos h10)
    generalize Lib.decDigits n = dl at *
    have hi : (n : Int) < 10 := by omega
    go_enter Tryz.func90, Tryz.ntmps90
    go_wp2_with fail
    refine HF.out.mono ?_
    rintro e w1 ⟨rfl, hb1⟩
    go_wp2_with fail
    go_ret
    refine ⟨?_, hb1⟩
    rw [HT.out]
    simp [ba_append]
  · have HT := Lib.hid (show twoT n = Lib.decDigits n from if_neg h10)
    generalize Lib.decDigits n = dl at *
    have hi : ¬ (n : Int) < 10 := by omega
    go_enter Tryz.func90, Tryz.ntmps90
    go_wp2_with fail
    refine HF.out.mono ?_
    rintro e w1 ⟨rfl, hb1⟩
    go_wp2_with fail
    go_ret
    refine ⟨?_, hb1⟩
    rw [HT.out]; rfl

set_option maxRecDepth 100000 in
set_option maxHeartbeats 1000000 in
theorem offPrint_out (x : Int) (w : World) (hr : x < -604799 ∨ 604799 < x) :
    Calls Tryz.prog 54 #[.int .i64 x] w fun e w' => e = .returned (.tuple #[.string ⟨#[]⟩, .int .i64 3]) ∧ Below w.heap.size w w' := by
  rcases hr with hr | hr
  all_goals
    go_enter Tryz.func54, Tryz.ntmps54
    go_wp2_with fail
    go_ret2
    exact ⟨rfl, Below.refl _ _⟩

set_option maxRecDepth 100000 in
set_option maxHeartbeats 1000000 in
theorem offPrint_in (n : Nat) (x : Int) (sg : List UInt8) (w : World) (hP : Pows w) (h1 : n ≤ 604799) (hx : (x = (n : Int) ∧ sg = []) ∨ (x = -(n : Int) ∧ 0 < n ∧ sg = [45])) :
    Calls Tryz.prog 54 #[.int .i64 x] w fun e w' => e = .returned (.tuple #[.string ⟨(sg ++ offT n).toArray⟩, .int .i64 0]) ∧ Below w.heap.size w w' := by
  have HF := Lib.hid (show ∀ W (y : Int), Below w.heap.size w W → y = ((n / 3600 : Nat) : Int) → Calls Tryz.prog 89 #[.int .i64 y, .int .i64 10] W fun e w' => e = .returned (.string ⟨(Lib.decDigits (n / 3600)).toArray⟩) ∧ Below W.heap.size W w' from fun W y hW hy => hy ▸ fmt_any _ W (hP.below hW) (by omega))
  have HM := Lib.hid (show ∀ W (y : Int), Below w.heap.size w W → y = ((n / 60 % 60 : Nat) : Int) → Calls Tryz.prog 90 #[.int .i64 y] W fun e w' => e = .returned (.string ⟨(twoT (n / 60 % 60)).toArray⟩) ∧ Below W.heap.size W w' from fun W y hW hy => hy ▸ two_any _ W (by omega) (hP.below hW))
  have HS := Lib.hid (show ∀ W (y : Int), Below w.heap.size w W → y = ((n % 60 : Nat) : Int) → Calls Tryz.prog 90 #[.int .i64 y] W fun e w' => e = .returned (.string ⟨(twoT (n % 60)).toArray⟩) ∧ Below W.heap.size W w' from fun W y hW hy => hy ▸ two_any _ W (by omega) (hP.below hW))
  have hl1 := dig_len (n / 3600) (by omega)
  have hl2 := twoT_len (n / 60 % 60) (by omega)
  have hl3 := twoT_len (n % 60) (by omega)
  have HT := Lib.hid (show offT n = Lib.decDigits (n / 3600) ++ [58] ++ twoT (n / 60 % 60) ++ (if n % 60 ≠ 0 then [58] ++ twoT (n % 60) else []) from rfl)
  clear hP
  generalize Lib.decDigits (n / 3600) = d1 at *
  generalize twoT (n / 60 % 60) = d2 at *
  generalize twoT (n % 60) = d3 at *
  rcases hx with ⟨rfl, rfl⟩ | ⟨rfl, h0, rfl⟩
  all_goals
    have hb0 : Below w.heap.size w w := Below.refl _ _
    go_enter Tryz.func54, Tryz.ntmps54
    go_wp2_with fail
    refine (HF.out _ _ hb0 (by omega)).mono ?_
    rintro e w1 ⟨rfl, hb1⟩
    go_wp2_with fail
    refine (HM.out _ _ hb1 (by omega)).mono ?_
    rintro e w2 ⟨rfl, hb2⟩
    have hb3 := hb1.trans (hb2.mono hb1.size)
    clear hb1 hb2 HF HM
    by_cases hs : n % 60 = 0
    · have HT2 := Lib.hid (show offT n = d1 ++ [58] ++ d2 by rw [HT.out, if_neg (by omega), List.append_nil])
      have hs2 : (n : Int) % 60 = 0 := by omega
      clear HS HT
      go_wp2_with fail
      go_ret2
      refine ⟨?_, hb3⟩
      rw [HT2.out]
      simp [ba_append]
    · have HT2 := Lib.hid (show offT n = d1 ++ [58] ++ d2 ++ ([58] ++ d3) by rw [HT.out, if_pos (by omega)])
      have hs2 : ¬ (n : Int) % 60 = 0 := by omega
      clear HT
      go_wp2_with fail
      refine (HS.out _ _ hb3 (by omega)).mono ?_
      rintro e w4 ⟨rfl, hb4⟩
      have hb5 := hb3.trans (hb4.mono hb3.size)
      clear hb3 hb4 HS
      go_wp2_with fail
      go_ret2
      refine ⟨?_, hb5⟩
      rw [HT2.out]
      simp [ba_append]

theorem offPrint_any (x : Int) (w : World) (hP : Pows w) :
    Calls Tryz.prog 54 #[.int .i64 x] w fun e w' => e = .returned (.tuple #[.string ⟨(offPrintR x).1.toArray⟩, .int .i64 (offPrintR x).2]) ∧ Below w.heap.size w w' := by
  by_cases hr : x < -604799 ∨ 604799 < x
  · rw [show offPrintR x = ([], 3) from if_pos hr]
    exact offPrint_out x w hr
  · rw [show offPrintR x = ((if x < 0 then [45] else []) ++ offT x.natAbs, 0) from if_neg hr]
    by_cases hn : x < 0
    · rw [if_pos hn]
      exact offPrint_in x.natAbs x [45] w hP (by omega) (.inr ⟨by omega, by omega, rfl⟩)
    · rw [if_neg hn]
      exact offPrint_in x.natAbs x [] w hP (by omega) (.inl ⟨by omega, rfl⟩)


/-- the value of digits -/
def valD (l : List UInt8) : Nat := l.foldl (fun a c => a * 10 + (c.toNat - 48)) 0
def allD (l : List UInt8) : Prop := ∀ a ∈ l, 48 ≤ a.toNat ∧ a.toNat ≤ 57
theorem valD_snoc (l : List UInt8) (c : UInt8) : valD (l ++ [c]) = valD l * 10 + (c.toNat - 48) := by simp [valD]
theorem dec_all : ∀ n : Nat, allD (Lib.decDigits n) ∧ valD (Lib.decDigits n) = n ∧ Lib.decDigits n ≠ [] ∧ (n ≠ 0 → (Lib.decDigits n).head? ≠ some 48) := by
  intro n
  induction n using Nat.strongRecOn with
  | _ n ih =>
    by_cases h : n < 10
    · rw [Lib.decDigits_one h]
      have h2 : (UInt8.ofNat (48 + n)).toNat = 48 + n := by rw [UInt8.toNat_ofNat']; omega
      refine ⟨fun a ha => ?_, ?_, by simp, fun h0 e => ?_⟩
      · rw [List.mem_singleton.1 ha, h2]; omega
      · simp only [valD, List.foldl_cons, List.foldl_nil, h2]; omega
      · have e : some (UInt8.ofNat (48 + n)) = some 48 := e
        have := congrArg UInt8.toNat (Option.some.inj e)
        rw [h2] at this
        have h3 : (48 : UInt8).toNat = 48 := rfl
        omega
    · obtain ⟨i1, i2, i3, i4⟩ := ih (n / 10) (by omega)
      have h2 : (UInt8.ofNat (48 + n % 10)).toNat = 48 + n % 10 := by rw [UInt8.toNat_ofNat']; omega
      rw [Lib.decDigits, dif_neg h]
      refine ⟨fun a ha => ?_, ?_, by simp, fun _ => ?_⟩
      · rcases List.mem_append.1 ha with ha | ha
        · exact i1 a ha
        · rw [List.mem_singleton.1 ha, h2]; omega
      · rw [valD_snoc, i2, h2]; omega
      · rw [List.head?_append]
        have := i4 (by omega)
        cases hl : Lib.decDigits (n / 10) with
        | nil => exact absurd hl i3
        | cons a r => rw [hl] at this; simpa using this
theorem dec_len : ∀ n : Nat, n ≤ 9999 → (Lib.decDigits n).length ≤ 4 := by
  intro n h
  rw [Lib.decDigits]; split
  · simp
  · rw [Lib.decDigits]; split
    · simp
    · rw [Lib.decDigits]; split
      · simp
      · rw [Lib.decDigits_one (by omega)]; simp

def isYear (l : List UInt8) : Prop := 1 ≤ l.length ∧ l.length ≤ 4 ∧ l.head? ≠ some 48 ∧ allD l
instance (l : List UInt8) : Decidable (allD l) := inferInstanceAs (Decidable (∀ a ∈ l, 48 ≤ a.toNat ∧ a.toNat ≤ 57))
instance (l : List UInt8) : Decidable (isYear l) := inferInstanceAs (Decidable (1 ≤ l.length ∧ l.length ≤ 4 ∧ l.head? ≠ some 48 ∧ allD l))
def namedB (y : Int) : Bool := decide (1850 ≤ y ∧ y ≤ 2149)
set_option maxHeartbeats 400000 in
theorem named_yes (y : Int) (w : World) (h : namedB y = true) :
    Calls Tryz.prog 56 #[.int .i64 y] w fun e w' => e = .returned (.bool true) ∧ w = w' := by
  have h2 := of_decide_eq_true h
  obtain ⟨h3, h4⟩ := h2
  clear h
  go_enter Tryz.func56, Tryz.ntmps56
  go_wp2
  go_ret
  exact ⟨rfl, rfl⟩
set_option maxHeartbeats 400000 in
theorem named_no (y : Int) (w : World) (h : namedB y = false) :
    Calls Tryz.prog 56 #[.int .i64 y] w fun e w' => e = .returned (.bool false) ∧ w = w' := by
  have h2 := of_decide_eq_false h
  clear h
  by_cases h3 : 1850 ≤ y
  · have h4 : ¬ y ≤ 2149 := fun h => h2 ⟨h3, h⟩
    clear h2
    go_enter Tryz.func56, Tryz.ntmps56
    go_wp2
    go_ret
    exact ⟨rfl, rfl⟩
  · clear h2
    go_enter Tryz.func56, Tryz.ntmps56
    go_wp2
    go_ret
    exact ⟨rfl, rfl⟩
theorem named_any (y : Int) (w : World) :
    Calls Tryz.prog 56 #[.int .i64 y] w fun e w' => e = .returned (.bool (namedB y)) ∧ w = w' := by
  cases h : namedB y
  · exact named_no y w h
  · exact named_yes y w h



def lettersO : Obj := .cells #[.int .i32 119, .int .i64 0, .int .i32 115, .int .i64 1, .int .i32 117, .int .i64 2, .int .i32 103, .int .i64 2, .int .i32 122, .int .i64 2] 124
set_option maxHeartbeats 400000 in
theorem letters_any (w : World) : Calls Tryz.prog 88 #[] w fun e w' => e = .returned (.slice (some ⟨w.heap.size, 0, none⟩) 5 5) ∧ w.alloc lettersO = w' := by
  go_enter Tryz.func88, Tryz.ntmps88
  go_wp2
  go_ret
  exact ⟨rfl, rfl⟩

def letN (k : Nat) : Nat := [119, 115, 117, 103, 122].getD k 0
def baseN (k : Nat) : Int := [0, 1, 2, 2, 2].getD k 0
def LettersAt (w : World) (g : Nat) : Prop := Blk w g 124 #[.int .i32 119, .int .i64 0, .int .i32 115, .int .i64 1, .int .i32 117, .int .i64 2, .int .i32 103, .int .i64 2, .int .i32 122, .int .i64 2]
theorem LettersAt.at_ {w : World} {g : Nat} (h : LettersAt w g) (k : Nat) (hk : k < 5) : w.cell? ⟨g, k * 2, none⟩ = some (.int .i32 (letN k : Int)) ∧ w.cell? ⟨g, k * 2 + 1, none⟩ = some (.int .i64 (baseN k)) := by
  rcases (by omega : k = 0 ∨ k = 1 ∨ k = 2 ∨ k = 3 ∨ k = 4) with rfl | rfl | rfl | rfl | rfl
  all_goals exact ⟨Blk.cell_ h rfl, Blk.cell_ h rfl⟩
theorem LettersAt.lt {w : World} {g : Nat} (h : LettersAt w g) : g < w.heap.size := Blk.lt h
theorem LettersAt.alloc {w : World} {g : Nat} (h : LettersAt w g) (o : Obj) : LettersAt (w.alloc o) g := Blk.alloc h o
def clockOk (x b : Int) : Bool := decide (-604799 ≤ x ∧ x ≤ 604799) && decide (0 ≤ b ∧ b ≤ 2)
set_option maxHeartbeats 1000000 in
theorem clockCheck_any (x b : Int) (w : World) :
    Calls Tryz.prog 87 #[.agg #[.int .i64 x, .int .i64 b]] w fun e w' => e = .returned (.int .i64 (if clockOk x b = true then 0 else 2)) ∧ Below w.heap.size w w' := by
  by_cases h : clockOk x b = true
  · rw [if_pos h]
    simp only [clockOk, Bool.and_eq_true, decide_eq_true_eq] at h
    obtain ⟨⟨h1, h2⟩, h3, h4⟩ := h
    go_enter Tryz.func87, Tryz.ntmps87
    go_wp2
    go_ret
    exact ⟨rfl, by go_grown⟩
  · rw [if_neg h]
    simp only [clockOk, Bool.and_eq_true, decide_eq_true_eq] at h
    rcases (by omega : x < -604799 ∨ (¬ x < -604799 ∧ 604799 < x) ∨ ((¬ x < -604799 ∧ ¬ 604799 < x) ∧ b < 0) ∨ ((¬ x < -604799 ∧ ¬ 604799 < x) ∧ ¬ b < 0 ∧ 2 < b)) with h1 | ⟨h1, h2⟩ | ⟨⟨h1, h2⟩, h3⟩ | ⟨⟨h1, h2⟩, h3, h4⟩
    all_goals
      clear h
      go_enter Tryz.func87, Tryz.ntmps87
      go_wp2
      go_ret
      exact ⟨rfl, by go_grown⟩
theorem conv_join (ot : List UInt8) (c : UInt8) : Ending.returned (.tuple #[.string (⟨ot.toArray⟩ ++ ⟨#[c]⟩), .int .i64 0]) = .returned (.tuple #[.string ⟨(ot ++ [c]).toArray⟩, .int .i64 0]) := by
  rw [ba_append]; simp
/-- the string of a time of day, and the error -/
def clockT (x b : Int) : List UInt8 := (if x < 0 then [45] else []) ++ offT x.natAbs ++ (if b = 1 then [115] else if b = 2 then [117] else [])
def clockPrintR (x b : Int) : List UInt8 × Int := if clockOk x b = true then (clockT x b, 0) else ([], 2)
theorem twoT_len' (n : Nat) (h : n < 60) : (twoT n).length = 2 := by
  have h' : ∀ n : Fin 60, (twoT n.val).length = 2 := by decide +kernel
  exact h' ⟨n, h⟩
theorem offT_len (n : Nat) (h : n ≤ 604799) : (offT n).length ≤ 9 := by
  have h1 := dig_len (n / 3600) (by omega)
  have h2 := twoT_len' (n / 60 % 60) (by omega)
  have h3 := twoT_len' (n % 60) (by omega)
  unfold offT
  split <;> simp <;> omega
theorem offPrint_ok (x : Int) (h0 : -604799 ≤ x) (h1 : x ≤ 604799) : offPrintR x = ((if x < 0 then [45] else []) ++ offT x.natAbs, 0) := if_neg (by omega)

set_option maxRecDepth 100000 in
set_option maxHeartbeats 2000000 in
theorem clockPrint_any (x b : Int) (w : World) (hP : Pows w) :
    Calls Tryz.prog 53 #[.agg #[.int .i64 x, .int .i64 b]] w fun e w' => e = .returned (.tuple #[.string ⟨(clockPrintR x b).1.toArray⟩, .int .i64 (clockPrintR x b).2]) ∧ Below w.heap.size w w' := by
  have hB0 : Below w.heap.size w (w.alloc (.cells #[.int .i64 x, .int .i64 b] 45)) := (Below.refl _ _).alloc (Nat.le_refl _) _
  have HC := Lib.hid (clockCheck_any x b (w.alloc (.cells #[.int .i64 x, .int .i64 b] 45)))
  by_cases h : clockOk x b = true
  · rw [if_pos h] at HC
    have HR := Lib.hid (show clockPrintR x b = (clockT x b, 0) from if_pos h)
    simp only [clockOk, Bool.and_eq_true, decide_eq_true_eq] at h
    obtain ⟨⟨h1, h2⟩, h3, h4⟩ := h
    have HO := Lib.hid (fun W (hW : Below w.heap.size w W) => offPrint_any x W (hP.below hW))
    simp only [offPrint_ok x h1 h2] at HO
    have hol := offT_len x.natAbs (by omega)
    have HT := Lib.hid (show clockT x b = ((if x < 0 then [45] else []) ++ offT x.natAbs) ++ (if b = 1 then [115] else if b = 2 then [117] else []) from rfl)
    have hol2 : ((if x < 0 then [45] else []) ++ offT x.natAbs : List UInt8).length ≤ 10 := by split <;> simp <;> omega
    generalize ((if x < 0 then [45] else []) ++ offT x.natAbs : List UInt8) = ot at *
    clear hP hol
    go_enter Tryz.func53, Tryz.ntmps53
    go_wp2_with fail
    refine HC.out.mono ?_
    rintro e w1 ⟨rfl, hb1⟩
    have b0 : Blk w1 w.heap.size 45 #[.int .i64 x, .int .i64 b] := (Blk.new' _ _ _ rfl).below hb1 (by simp)
    have c0 : w1.cell? ⟨w.heap.size, 0, none⟩ = some (.int .i64 x) := b0.cell_ rfl
    have HB1 := Lib.hid (And.intro b0 (hB0.trans (hb1.mono (by simp))))
    clear b0 hb1 hB0 HC
    go_wp2_with fail
    refine (HO.out _ HB1.out.2).mono ?_
    rintro e w2 ⟨rfl, hb2⟩
    have HB2 := Lib.hid (And.intro (HB1.out.1.below hb2 HB1.out.1.lt) (HB1.out.2.trans (hb2.mono HB1.out.2.size)))
    clear hb2 HB1 c0 HO
    go_wp2_with fail
    refine (letters_any _).mono ?_
    rintro e w3 ⟨rfl, h3w⟩
    have HLt := Lib.hid (show LettersAt w3 w2.heap.size from h3w ▸ Blk.new' _ _ _ rfl)
    have HB3 := Lib.hid (show Blk w3 w.heap.size 45 #[.int .i64 x, .int .i64 b] ∧ Below w.heap.size w w3 from h3w ▸ ⟨HB2.out.1.alloc _, HB2.out.2.alloc HB2.out.2.size _⟩)
    generalize w2.heap.size = gL at *
    clear h3w HB2
    go_wp2_with fail
    go_loopw [25] (fun i wr => ∃ k : Nat, k ≤ 5 ∧ i = .int .i64 (k : Int) ∧ LettersAt wr gL ∧ Blk wr w.heap.size 45 #[.int .i64 x, .int .i64 b] ∧ Below w.heap.size w wr ∧ Aside (∀ j, j < k → ¬ (baseN j = b ∧ b ≠ 0))) (fun i _ => 5 - (intOf i).toNat)
    case atStart => exact ⟨0, by omega, rfl, HLt.out, HB3.out.1, HB3.out.2, fun j hj => absurd hj (by omega)⟩
    case round =>
      obtain ⟨k, hk, rfl, hL, hC, hb, hno⟩ := hrel
      have HNo := Lib.hid hno.out
      clear hno HLt HB3
      by_cases hlt : k < 5
      · obtain ⟨c0, c1⟩ := hL.at_ k hlt
        have hz1 := hL.lt
        have hz2 := hC.lt
        have d1 : wr.cell? ⟨w.heap.size, 1, none⟩ = some (.int .i64 b) := hC.cell_ rfl
        have HLt := Lib.hid hL
        have HB1 := Lib.hid (And.intro hC hb)
        clear hL hb hC
        have hk2 : k < 5 := hlt
        have e115 : Utf8.encode 115 = ⟨#[115]⟩ := by decide +kernel
        have e117 : Utf8.encode 117 = ⟨#[117]⟩ := by decide +kernel
        rcases (by omega : b = 0 ∨ b = 1 ∨ b = 2) with rfl | rfl | rfl
        all_goals rcases (by omega : k = 0 ∨ k = 1 ∨ k = 2 ∨ k = 3 ∨ k = 4) with rfl | rfl | rfl | rfl | rfl
        all_goals simp only [letN, baseN, List.getD_cons_zero, List.getD_cons_succ, Nat.zero_mul, Nat.one_mul, Nat.zero_add] at c0 c1
        all_goals first
          | exact absurd ⟨rfl, by decide⟩ (HNo.out 1 (by decide))
          | exact absurd ⟨rfl, by decide⟩ (HNo.out 2 (by decide))
          | (go_wp2_with fail
             go_ret2
             refine ⟨?_, HB1.out.2.alloc HB1.out.2.size _⟩
             rw [HR.out, HT.out]
             exact conv_join _ _)
          | (go_wp2_with fail
             go_roundw
             case rel =>
               refine ⟨_, by decide, rfl, HLt.out.alloc _, HB1.out.1.alloc _, HB1.out.2.alloc HB1.out.2.size _, ?_⟩
               show ∀ j, j < _ → ¬ _
               decide
             case measure => simp [intOf])
      · obtain rfl : k = 5 := by omega
        have HB1 := Lib.hid hb
        have hbz : b = 0 := by
          have h1 := HNo.out 1 (by decide)
          have h2 := HNo.out 2 (by decide)
          simp only [baseN, List.getD_cons_zero, List.getD_cons_succ] at h1 h2
          omega
        subst hbz
        clear hL hb hC HNo
        go_wp2_with fail
        go_ret2
        refine ⟨?_, HB1.out⟩
        rw [HR.out, HT.out]
        simp
  · rw [if_neg h] at HC
    have HR := Lib.hid (show clockPrintR x b = ([], 2) from if_neg h)
    clear hP h
    go_enter Tryz.func53, Tryz.ntmps53
    go_wp2_with fail
    refine HC.out.mono ?_
    rintro e w1 ⟨rfl, hb1⟩
    have HB1 := Lib.hid (hB0.trans (hb1.mono (by simp)))
    clear hb1 hB0
    go_wp2_with fail
    go_ret2
    exact ⟨by rw [HR.out]; rfl, HB1.out⟩


def rowOf (f : Nat → Nat) : Array Value := (Array.range 256).map fun c => .int .u8 (f c : Int)
theorem rowOf_size (f : Nat → Nat) : (rowOf f).size = 256 := by simp [rowOf]
theorem rowOf_at (f : Nat → Nat) (i : Nat) (h : i < 256) : (rowOf f)[i]? = some (.int .u8 (f i : Int)) := by
  simp [rowOf, h]
theorem rowOf_none (f : Nat → Nat) (i : Nat) (h : ¬ i < 256) : (rowOf f)[i]? = none := Array.getElem?_eq_none (by rw [rowOf_size]; omega)
theorem rowOf_set (f : Nat → Nat) (i x : Nat) (h : i < 256) (g : Nat → Nat) (hg : ∀ c, c < 256 → g c = if c = i then x else f c) : (rowOf f).setIfInBounds i (.int .u8 (x : Int)) = rowOf g := by
  apply Array.ext_getElem?
  intro j
  rw [Array.getElem?_setIfInBounds, rowOf_size, if_pos h]
  by_cases hj : j < 256
  · rw [rowOf_at _ _ hj, rowOf_at _ _ hj, hg j hj]
    by_cases e : i = j
    · rw [if_pos e, if_pos e.symm]
    · rw [if_neg e, if_neg (fun k => e k.symm)]
  · rw [rowOf_none _ _ hj, rowOf_none _ _ hj, if_neg (by omega)]
def letTo (k c : Nat) : Nat := if (65 ≤ c ∧ c < 65 + k) ∨ (97 ≤ c ∧ c < 97 + k) then 1 else 0
def digTo (k c : Nat) : Nat := if 48 ≤ c ∧ c < 48 + k then 2 else letTo 26 c
def kindN (c : Nat) : Nat := if c = 95 then 4 else if c = 45 then 8 else if c = 46 ∨ c = 43 then 16 else digTo 10 c

theorem Blk.there {w : World} {g : Nat} {t : TypeId} {cs : Array Value} (h : Blk w g t cs) {n : Nat} (hn : n ≤ cs.size) : w.there g 0 n := fun j hj => by
  rw [Nat.zero_add]
  exact ⟨by rw [h.cell, Array.getElem?_eq_getElem (by omega)]; rfl, h.frozen j⟩
theorem Blk.sets {g : Nat} {t : TypeId} : ∀ (vs : List Value) (o : Nat) (w : World) (cs : Array Value), Blk w g t cs → o + vs.length ≤ cs.size →
    ∃ cs', Blk (w.setCells g o vs) g t cs' ∧ ∀ j, cs'[j]? = if o ≤ j ∧ j < o + vs.length then vs[j - o]? else cs[j]?
  | [], o, w, cs, h, _ => ⟨cs, h, fun j => by rw [if_neg (by simp only [List.length_nil]; omega)]⟩
  | v :: vs, o, w, cs, h, hl => by
    simp only [List.length_cons] at hl
    obtain ⟨cs', h1, h2⟩ := Blk.sets vs (o + 1) (w.setCell ⟨g, o, none⟩ v) (cs.setIfInBounds o v) (h.set_ o v) (by simp; omega)
    refine ⟨cs', h1, fun j => ?_⟩
    rw [h2 j, Array.getElem?_setIfInBounds]
    simp only [List.length_cons]
    by_cases h3 : o + 1 ≤ j ∧ j < o + 1 + vs.length
    · rw [if_pos h3, if_pos (by omega), show j - o = (j - (o + 1)) + 1 by omega, List.getElem?_cons_succ]
    · rw [if_neg h3]
      by_cases h4 : o = j
      · subst h4
        have ho : o < cs.size := by omega
        simp [ho]
      · rw [if_neg h4, if_neg (by omega)]
theorem Blk.setAll {w : World} {g : Nat} {t : TypeId} {cs : Array Value} (h : Blk w g t cs) (cs' : Array Value) (hs : cs'.size = cs.size) : Blk (w.setCells g 0 cs'.toList) g t cs' := by
  obtain ⟨c, h1, h2⟩ := Blk.sets cs'.toList 0 w cs h (by simp [hs])
  have e : c = cs' := by
    apply Array.ext_getElem?
    intro j
    rw [h2 j]
    simp only [Nat.zero_add, Array.length_toList, Nat.sub_zero, Array.getElem?_toList]
    by_cases hj : j < cs'.size
    · rw [if_pos ⟨by omega, hj⟩]
    · rw [if_neg (by omega), Array.getElem?_eq_none (by omega), Array.getElem?_eq_none (by omega)]
  rw [e] at h1
  exact h1
theorem below_sets {B : Nat} {a : World} {g : Nat} (hg : B ≤ g) : ∀ (vs : List Value) (o : Nat) (w : World), Below B a w → Below B a (w.setCells g o vs)
  | [], _, _, h => h
  | v :: vs, o, w, h => below_sets hg vs (o + 1) _ (h.setCell hg v)
theorem row_one (f : Nat → Nat) : (rowOf f).all (·.oneCell') = true := by
  rw [Array.all_eq_true]
  intro i hi
  simp only [rowOf, Array.getElem_map]
  rfl
theorem info256 : (Tryz.prog.info? 155).map (·.size) = some 256 := by kernel_rfl
theorem zero_row : Tryz.zeroCells155 = rowOf (letTo 0) := by
  have h : rowOf (letTo 0) = rowOf fun _ => 0 := by
    unfold rowOf
    congr 1
    funext c
    congr 1
    unfold letTo
    rw [if_neg (by omega)]
  exact (show Tryz.zeroCells155 = rowOf fun _ => 0 by kernel_rfl).trans h.symm
theorem let_step (k : Nat) (hk : k < 26) : ((rowOf (letTo k)).setIfInBounds (65 + k) (.int .u8 1)).setIfInBounds (97 + k) (.int .u8 1) = rowOf (letTo (k + 1)) := by
  rw [show (Value.int .u8 1) = .int .u8 ((1 : Nat) : Int) from rfl]
  rw [rowOf_set (letTo k) (65 + k) 1 (by omega) (fun c => if c = 65 + k then 1 else letTo k c) (fun c _ => rfl)]
  refine rowOf_set _ (97 + k) 1 (by omega) _ (fun c _ => ?_)
  simp only [letTo]
  split <;> split <;> (try split) <;> (try split) <;> omega
theorem dig_step (k : Nat) (hk : k < 10) : (rowOf (digTo k)).setIfInBounds (48 + k) (.int .u8 2) = rowOf (digTo (k + 1)) := by
  rw [show (Value.int .u8 2) = .int .u8 ((2 : Nat) : Int) from rfl]
  refine rowOf_set _ (48 + k) 2 (by omega) _ (fun c _ => ?_)
  simp only [digTo]
  by_cases h1 : c = 48 + k
  · rw [if_pos (by omega), if_pos h1]
  · rw [if_neg h1]
    by_cases h2 : 48 ≤ c ∧ c < 48 + k
    · rw [if_pos (by omega), if_pos h2]
    · rw [if_neg (by omega), if_neg h2]
theorem last_step : ((((rowOf (digTo 10)).setIfInBounds 95 (.int .u8 4)).setIfInBounds 45 (.int .u8 8)).setIfInBounds 46 (.int .u8 16)).setIfInBounds 43 (.int .u8 16) = rowOf kindN := by
  rw [show (Value.int .u8 4) = .int .u8 ((4 : Nat) : Int) from rfl, show (Value.int .u8 8) = .int .u8 ((8 : Nat) : Int) from rfl, show (Value.int .u8 16) = .int .u8 ((16 : Nat) : Int) from rfl]
  rw [rowOf_set (digTo 10) 95 4 (by omega) (fun c => if c = 95 then 4 else digTo 10 c) (fun c _ => rfl)]
  rw [rowOf_set _ 45 8 (by omega) (fun c => if c = 45 then 8 else if c = 95 then 4 else digTo 10 c) (fun c _ => rfl)]
  rw [rowOf_set _ 46 16 (by omega) (fun c => if c = 46 then 16 else if c = 45 then 8 else if c = 95 then 4 else digTo 10 c) (fun c _ => rfl)]
  refine rowOf_set _ 43 16 (by omega) _ (fun c _ => ?_)
  simp only [kindN]
  by_cases h1 : c = 43
  · subst h1; rfl
  · rw [if_neg h1]
    by_cases h2 : c = 46
    · subst h2; rfl
    · rw [if_neg h2, if_neg (show ¬ (c = 46 ∨ c = 43) by omega)]
      by_cases h3 : c = 45
      · subst h3; rfl
      · rw [if_neg h3, if_neg h3]

set_option maxRecDepth 100000 in
set_option maxHeartbeats 1000000 in
theorem kinds_any (w : World) :
    Calls Tryz.prog 123 #[] w fun e w' => e = .returned (.agg (rowOf kindN)) ∧ Below w.heap.size w w' := by
  go_enter Tryz.func123, Tryz.ntmps123
  go_wp2_with fail
  have HB0 := Lib.hid (show Blk ((w.alloc (.cells Tryz.zeroCells155 155)).alloc (.cells Tryz.zeroCells155 155)) (w.heap.size + 1) 155 (rowOf (letTo 0)) by rw [← zero_row]; exact Blk.new' _ _ _ (by simp))
  have HA0 := Lib.hid (show Blk ((w.alloc (.cells Tryz.zeroCells155 155)).alloc (.cells Tryz.zeroCells155 155)) w.heap.size 155 (rowOf (letTo 0)) by rw [← zero_row]; exact (Blk.new' _ _ _ rfl).alloc _)
  have HW0 := Lib.hid (show Below w.heap.size w ((w.alloc (.cells Tryz.zeroCells155 155)).alloc (.cells Tryz.zeroCells155 155)) from ((Below.refl _ _).alloc (Nat.le_refl _) _).alloc (by simp) _)
  generalize (w.alloc (.cells Tryz.zeroCells155 155)).alloc (.cells Tryz.zeroCells155 155) = W0 at *
  go_loopw [4] (fun i wr => ∃ k : Nat, k ≤ 26 ∧ i = .int .i64 (k : Int) ∧ Blk wr (w.heap.size + 1) 155 (rowOf (letTo k)) ∧ Blk wr w.heap.size 155 (rowOf (letTo 0)) ∧ Below w.heap.size w wr) (fun i _ => 26 - (intOf i).toNat)
  case atStart => exact ⟨0, by omega, rfl, HB0.out, HA0.out, HW0.out⟩
  case round =>
    obtain ⟨k, hk, rfl, hB, hA, hb⟩ := hrel
    clear HB0 HA0 HW0
    by_cases hlt : k < 26
    · have hi : (k : Int) < 26 := by omega
      have c1 : wr.cell? ⟨w.heap.size + 1, 65 + k, none⟩ = some (.int .u8 (letTo k (65 + k) : Int)) := hB.cell_ (rowOf_at _ _ (by omega))
      have f1 := hB.frozen (65 + k)
      have c2 : wr.cell? ⟨w.heap.size + 1, 97 + k, none⟩ = some (.int .u8 (letTo k (97 + k) : Int)) := hB.cell_ (rowOf_at _ _ (by omega))
      have f2 := hB.frozen (97 + k)
      have t1 : (65 + (k : Int)).toNat = 65 + k := by omega
      have t2 : (97 + (k : Int)).toNat = 97 + k := by omega
      generalize letTo k (65 + k) = v1 at *
      generalize letTo k (97 + k) = v2 at *
      have HB := Lib.hid hB
      have HA := Lib.hid hA
      have Hb := Lib.hid hb
      clear hB hA hb
      go_wp2_with fail
      refine ⟨⟨k + 1, by omega, by go_num, ?_, (HA.out.far (by show w.heap.size ≠ w.heap.size + 1; omega) _).far (by show w.heap.size ≠ w.heap.size + 1; omega) _, (Hb.out.setCell (by show w.heap.size ≤ w.heap.size + 1; omega) _).setCell (by show w.heap.size ≤ w.heap.size + 1; omega) _⟩, by simp [intOf]; omega⟩
      rw [← let_step k hlt]
      exact (HB.out.set_ _ _).set_ _ _
    · obtain rfl : k = 26 := by omega
      have HB := Lib.hid (show Blk wr (w.heap.size + 1) 155 (rowOf (digTo 0)) by
        rw [show digTo 0 = letTo 26 from funext fun c => if_neg (by omega)]; exact hB)
      have HA := Lib.hid hA
      have Hb := Lib.hid hb
      clear hB hA hb
      go_wp2_with fail
      obtain ⟨W1, hW1⟩ : ∃ W1, W1 = wr := ⟨_, rfl⟩
      subst hW1
      go_loopw [14] (fun i wr => ∃ k : Nat, k ≤ 10 ∧ i = .int .i64 (k : Int) ∧ Blk wr (w.heap.size + 1) 155 (rowOf (digTo k)) ∧ Blk wr w.heap.size 155 (rowOf (letTo 0)) ∧ Below w.heap.size w wr) (fun i _ => 10 - (intOf i).toNat)
      case atStart => exact ⟨0, by omega, rfl, HB.out, HA.out, Hb.out⟩
      case round =>
        obtain ⟨k, hk, rfl, hB, hA, hb⟩ := hrel
        clear HB HA Hb
        by_cases hlt : k < 10
        · have hi : (k : Int) < 10 := by omega
          have c1 : wr.cell? ⟨w.heap.size + 1, 48 + k, none⟩ = some (.int .u8 (digTo k (48 + k) : Int)) := hB.cell_ (rowOf_at _ _ (by omega))
          have f1 := hB.frozen (48 + k)
          have t1 : (48 + (k : Int)).toNat = 48 + k := by omega
          generalize digTo k (48 + k) = v1 at *
          have HB := Lib.hid hB
          have HA := Lib.hid hA
          have Hb := Lib.hid hb
          clear hB hA hb
          go_wp2_with fail
          refine ⟨⟨k + 1, by omega, by go_num, ?_, HA.out.far (by show w.heap.size ≠ w.heap.size + 1; omega) _, Hb.out.setCell (by show w.heap.size ≤ w.heap.size + 1; omega) _⟩, by simp [intOf]; omega⟩
          rw [← dig_step k hlt]
          exact HB.out.set_ _ _
        · obtain rfl : k = 10 := by omega
          have c1 : wr.cell? ⟨w.heap.size + 1, 95, none⟩ = some (.int .u8 (digTo 10 95 : Int)) := hB.cell_ (rowOf_at _ _ (by omega))
          have c2 : wr.cell? ⟨w.heap.size + 1, 45, none⟩ = some (.int .u8 (digTo 10 45 : Int)) := hB.cell_ (rowOf_at _ _ (by omega))
          have c3 : wr.cell? ⟨w.heap.size + 1, 46, none⟩ = some (.int .u8 (digTo 10 46 : Int)) := hB.cell_ (rowOf_at _ _ (by omega))
          have c4 : wr.cell? ⟨w.heap.size + 1, 43, none⟩ = some (.int .u8 (digTo 10 43 : Int)) := hB.cell_ (rowOf_at _ _ (by omega))
          have f1 := hB.frozen 95
          have f2 := hB.frozen 45
          have f3 := hB.frozen 46
          have f4 := hB.frozen 43
          have HB := Lib.hid hB
          have HA := Lib.hid hA
          have Hb := Lib.hid hb
          clear hB hA hb
          have hrs : (Tryz.prog.info? 155).map (·.size) = some (rowOf kindN).size := by rw [rowOf_size]; exact info256
          have HK := Lib.hid (show Blk ((((wr.setCell ⟨w.heap.size + 1, 95, none⟩ (.int .u8 4)).setCell ⟨w.heap.size + 1, 45, none⟩ (.int .u8 8)).setCell ⟨w.heap.size + 1, 46, none⟩ (.int .u8 16)).setCell ⟨w.heap.size + 1, 43, none⟩ (.int .u8 16)) (w.heap.size + 1) 155 (rowOf kindN) by
            rw [← last_step]; exact (((HB.out.set_ _ _).set_ _ _).set_ _ _).set_ _ _)
          have HA2 := Lib.hid (show Blk ((((wr.setCell ⟨w.heap.size + 1, 95, none⟩ (.int .u8 4)).setCell ⟨w.heap.size + 1, 45, none⟩ (.int .u8 8)).setCell ⟨w.heap.size + 1, 46, none⟩ (.int .u8 16)).setCell ⟨w.heap.size + 1, 43, none⟩ (.int .u8 16)) w.heap.size 155 (rowOf (letTo 0)) from
            (((HA.out.far (by show w.heap.size ≠ w.heap.size + 1; omega) _).far (by show w.heap.size ≠ w.heap.size + 1; omega) _).far (by show w.heap.size ≠ w.heap.size + 1; omega) _).far (by show w.heap.size ≠ w.heap.size + 1; omega) _)
          have Hb2 := Lib.hid (show Below w.heap.size w ((((wr.setCell ⟨w.heap.size + 1, 95, none⟩ (.int .u8 4)).setCell ⟨w.heap.size + 1, 45, none⟩ (.int .u8 8)).setCell ⟨w.heap.size + 1, 46, none⟩ (.int .u8 16)).setCell ⟨w.heap.size + 1, 43, none⟩ (.int .u8 16)) from
            (((Hb.out.setCell (by show w.heap.size ≤ w.heap.size + 1; omega) _).setCell (by show w.heap.size ≤ w.heap.size + 1; omega) _).setCell (by show w.heap.size ≤ w.heap.size + 1; omega) _).setCell (by show w.heap.size ≤ w.heap.size + 1; omega) _)
          go_upto_region 13 with fail
          generalize (((wr.setCell ⟨w.heap.size + 1, 95, none⟩ (.int .u8 4)).setCell ⟨w.heap.size + 1, 45, none⟩ (.int .u8 8)).setCell ⟨w.heap.size + 1, 46, none⟩ (.int .u8 16)).setCell ⟨w.heap.size + 1, 43, none⟩ (.int .u8 16) = W2 at *
          go_wp2_with (first
            | (refine wpList_load_row rfl 155 (.tmp 1) rfl (w.heap.size + 1) rfl 155 (rowOf kindN) (0, 0) _ HK.out Tryz.underlying155 rfl hrs ?_)
            | (refine wpList_store_mid rfl 155 (.tmp 0) (.tmp 25) rfl w.heap.size 0 (rowOf kindN) rfl rfl (HA2.out.there (by rw [rowOf_size, rowOf_size]; exact Nat.le_refl _)) hrs (row_one _) ?_))
          refine bodyPost_ret (results_cell_row rfl _ _ w.heap.size 155 (rowOf kindN) (0, 0) _ rfl (HA2.out.setAll (rowOf kindN) (by rw [rowOf_size, rowOf_size])) Tryz.underlying155 rfl hrs) rfl ⟨rfl, below_sets (Nat.le_refl _) _ _ _ Hb2.out⟩

theorem kindN_lt (x : Nat) : kindN x < 32 := by
  unfold kindN digTo letTo
  repeat' split
  all_goals omega
theorem and_fin : ∀ a : Fin 32, ∀ b : Fin 256, (bits BinOp.and IntKind.u8 (a.val : Int) (b.val : Int) == 0) = (a.val &&& b.val == 0) := by decide +kernel
theorem and_zero {a b : Nat} (ha : a < 32) (hb : b < 256) (h : a &&& b = 0) : (bits BinOp.and IntKind.u8 (a : Int) (b : Int) == 0) = true := by
  have := and_fin ⟨a, ha⟩ ⟨b, hb⟩
  simp only at this
  rw [this, h]; rfl
theorem and_some {a b : Nat} (ha : a < 32) (hb : b < 256) (h : ¬ a &&& b = 0) : (bits BinOp.and IntKind.u8 (a : Int) (b : Int) == 0) = false := by
  have := and_fin ⟨a, ha⟩ ⟨b, hb⟩
  simp only at this
  rw [this]; exact beq_eq_false_iff_ne.2 h
theorem take_snoc' (s : ByteArray) (k : Nat) (h : k < s.size) : s.data.toList.take (k + 1) = s.data.toList.take k ++ [s[k]] := by
  rw [List.take_succ_eq_append_getElem (by simpa using h)]; rfl
def ofB (least most sm : Nat) (l : List UInt8) : Bool := decide (least ≤ l.length ∧ l.length ≤ most) && l.all fun c => kindN c.toNat &&& sm != 0
/-- a function value that name.of has made -/
def IsOf (w : World) (v : Value) (least most sm : Nat) : Prop := ∃ a b c d : Nat, v = .func (.func 124) #[] #[.pointer (some ⟨a, 0, none⟩), .pointer (some ⟨b, 0, none⟩), .pointer (some ⟨c, 0, none⟩), .pointer (some ⟨d, 0, none⟩)] ∧
  w.cell? ⟨a, 0, none⟩ = some (.int .i64 (least : Int)) ∧ w.cell? ⟨b, 0, none⟩ = some (.int .i64 (most : Int)) ∧ Blk w c 155 (rowOf kindN) ∧ w.cell? ⟨d, 0, none⟩ = some (.int .u8 (sm : Int))

set_option maxRecDepth 100000 in
set_option maxHeartbeats 1000000 in
theorem of_any (least most sm : Nat) (w : World) :
    Calls Tryz.prog 91 #[.int .i64 (least : Int), .int .i64 (most : Int), .int .u8 (sm : Int)] w fun e w' => (∃ v, e = .returned v ∧ IsOf w' v least most sm) ∧ Below w.heap.size w w' := by
  go_enter Tryz.func91, Tryz.ntmps91
  go_wp2_with fail
  refine (kinds_any _).mono ?_
  rintro e w1 ⟨rfl, hb1⟩
  have hB0 : Below w.heap.size w (((w.alloc (.cells #[.int .i64 (least : Int)] 3)).alloc (.cells #[.int .i64 (most : Int)] 3)).alloc (.cells #[.int .u8 (sm : Int)] 5)) := (((Below.refl _ _).alloc (Nat.le_refl _) _).alloc (by simp) _).alloc (by simp; omega) _
  have b0 : Blk w1 w.heap.size 3 #[.int .i64 (least : Int)] := (((Blk.new' _ _ _ rfl).alloc _).alloc _).below hb1 (by simp; omega)
  have b1 : Blk w1 (w.heap.size + 1) 3 #[.int .i64 (most : Int)] := ((Blk.new' _ _ _ (by simp)).alloc _).below hb1 (by simp)
  have b2 : Blk w1 (w.heap.size + 1 + 1) 5 #[.int .u8 (sm : Int)] := (Blk.new' _ _ _ (by simp)).below hb1 (by simp)
  have HB := Lib.hid (And.intro b0 (And.intro b1 (And.intro b2 (hB0.trans (hb1.mono (by simp; omega))))))
  clear hb1 hB0 b0 b1 b2
  have hrs : (Tryz.prog.info? 155).map (·.size) = some (rowOf kindN).size := by rw [rowOf_size]; exact info256
  have HZ := Lib.hid (show Blk (w1.alloc (.cells Tryz.zeroCells155 155)) w1.heap.size 155 (rowOf (letTo 0)) by rw [← zero_row]; exact Blk.new' _ _ _ rfl)
  go_wp2_with (refine wpList_store_mid rfl 155 (.tmp 7) (.tmp 8) rfl w1.heap.size 0 (rowOf kindN) rfl rfl (HZ.out.there (by rw [rowOf_size, rowOf_size]; exact Nat.le_refl _)) hrs (row_one _) ?_)
  go_ret
  obtain ⟨b0, b1, b2, hB⟩ := HB.out
  have hlt := b0.lt
  have keep : ∀ {g : Nat} {t : TypeId} {cs : Array Value}, Blk w1 g t cs → Blk ((w1.alloc (.cells Tryz.zeroCells155 155)).setCells w1.heap.size 0 (rowOf kindN).toList) g t cs := fun {g t cs} h =>
    h.below (B := w1.heap.size) (below_sets (Nat.le_refl _) _ _ _ ((Below.refl _ _).alloc (Nat.le_refl _) _)) h.lt
  exact ⟨⟨_, rfl, _, _, _, _, rfl, (keep b0).cell_ rfl, (keep b1).cell_ rfl, HZ.out.setAll (rowOf kindN) (by rw [rowOf_size, rowOf_size]), (keep b2).cell_ rfl⟩, below_sets (by omega) _ _ _ (hB.alloc hB.size _)⟩

set_option maxRecDepth 100000 in
set_option maxHeartbeats 1000000 in
theorem of1_any (least most sm : Nat) (s : ByteArray) (a b c d : Nat) (w : World) (hsm : sm < 256) (hs : s.size ≤ 1048576) (ha : w.cell? ⟨a, 0, none⟩ = some (.int .i64 (least : Int))) (hb : w.cell? ⟨b, 0, none⟩ = some (.int .i64 (most : Int)))
    (hc : Blk w c 155 (rowOf kindN)) (hd : w.cell? ⟨d, 0, none⟩ = some (.int .u8 (sm : Int))) :
    Calls Tryz.prog 124 #[.string s, .pointer (some ⟨a, 0, none⟩), .pointer (some ⟨b, 0, none⟩), .pointer (some ⟨c, 0, none⟩), .pointer (some ⟨d, 0, none⟩)] w fun e w' => e = .returned (.bool (ofB least most sm s.data.toList)) ∧ ∃ n, w' = w.drewN n := by
  by_cases h1 : (s.size : Int) < (least : Int)
  · have HR := Lib.hid (show ofB least most sm s.data.toList = false by simp [ofB]; omega)
    go_enter Tryz.func124, Tryz.ntmps124
    go_wp2_with fail
    go_ret
    exact ⟨by rw [HR.out]; rfl, 0, rfl⟩
  by_cases h2 : (most : Int) < (s.size : Int)
  · have HR := Lib.hid (show ofB least most sm s.data.toList = false by simp [ofB]; omega)
    go_enter Tryz.func124, Tryz.ntmps124
    go_wp2_with fail
    go_ret
    exact ⟨by rw [HR.out]; rfl, 0, rfl⟩
  go_enter Tryz.func124, Tryz.ntmps124
  go_wp2_with fail
  go_loopw [20] (fun i wr => ∃ k n : Nat, k ≤ s.size ∧ i = .int .i64 (k : Int) ∧ Aside ((s.data.toList.take k).all (fun c => kindN c.toNat &&& sm != 0) = true) ∧ wr = w.drewN n) (fun i _ => s.size - (intOf i).toNat)
  case atStart => exact ⟨0, 0, by omega, rfl, by simp [Aside], rfl⟩
  case round =>
    obtain ⟨k, n, hk, rfl, hall, rfl⟩ := hrel
    by_cases hlt : k < s.size
    · obtain ⟨x, hx⟩ : ∃ x : Nat, x = (s[k]'hlt).toNat := ⟨_, rfl⟩
      have g0 : ∀ h, (s[k]'h).toNat = x := fun _ => hx.symm
      have hx256 : x < 256 := by rw [hx]; exact (s[k]'hlt).toNat_lt
      have hcx : w.cell? ⟨c, x, none⟩ = some (.int .u8 (kindN x : Int)) := hc.cell_ (rowOf_at _ _ hx256)
      have x0 : (0 : Int) ≤ (x : Int) := by omega
      have x1 : (x : Int) < 256 := by omega
      have k0 : (0 : Int) ≤ (k : Int) := by omega
      have k1 : (k : Int) < (s.size : Int) := by omega
      have HX := Lib.hid hx
      have HC := Lib.hid hc
      generalize hkv : kindN x = kv at *
      have HKV := Lib.hid hkv
      clear hx hc hkv
      have hkv32 : kv < 32 := by rw [← HKV.out]; exact kindN_lt x
      have HT := Lib.hid (take_snoc' s k hlt)
      by_cases hz : kv &&& sm = 0
      · have hbz := and_zero hkv32 hsm hz
        have HR := Lib.hid (show ofB least most sm s.data.toList = false by
          rw [ofB, Bool.and_eq_false_iff]
          refine .inr ?_
          rw [← List.take_append_drop (k + 1) s.data.toList, HT.out, List.all_append, List.all_append]
          simp only [List.all_cons, List.all_nil, ← HX.out, HKV.out, hz]
          simp)
        go_wp2_with fail
        go_quiet (fail)
        go_wp2_with fail
        go_ret
        exact ⟨by rw [HR.out]; rfl, n + nq, by simp [World.drewN, Nat.add_assoc]⟩
      · have hbz := and_some hkv32 hsm hz
        go_wp2_with fail
        go_quiet (fail)
        go_wp2_with fail
        go_roundw
        case rel =>
          refine ⟨k + 1, n + nq, by omega, by go_num, ?_, by simp [World.drewN]⟩
          show (List.take (k + 1) s.data.toList).all _ = true
          rw [HT.out, List.all_append]
          simp only [List.all_cons, List.all_nil, ← HX.out, HKV.out]
          have h : (List.take k s.data.toList).all (fun c => kindN c.toNat &&& sm != 0) = true := hall
          rw [h]
          simp [hz]
        case measure => simp [intOf]; omega
    · obtain rfl : k = s.size := by omega
      have HR := Lib.hid (show ofB least most sm s.data.toList = true by
        rw [ofB, Bool.and_eq_true]
        refine ⟨by simp; omega, ?_⟩
        have h : (List.take s.size s.data.toList).all (fun c => kindN c.toNat &&& sm != 0) = true := hall
        rwa [List.take_of_length_le (by simp)] at h)
      clear hall
      go_wp2_with fail
      go_ret
      exact ⟨by rw [HR.out]; rfl, n, rfl⟩

theorem ofv_any {least most sm : Nat} {v : Value} {w : World} (h : IsOf w v least most sm) (s : ByteArray) (hsm : sm < 256) (hs : s.size ≤ 1048576) :
    ∃ a b c d : Nat, v = .func (.func 124) #[] #[.pointer (some ⟨a, 0, none⟩), .pointer (some ⟨b, 0, none⟩), .pointer (some ⟨c, 0, none⟩), .pointer (some ⟨d, 0, none⟩)] ∧ ∀ w', Below w.heap.size w w' →
    Calls Tryz.prog 124 #[.string s, .pointer (some ⟨a, 0, none⟩), .pointer (some ⟨b, 0, none⟩), .pointer (some ⟨c, 0, none⟩), .pointer (some ⟨d, 0, none⟩)] w' fun e w'' => e = .returned (.bool (ofB least most sm s.data.toList)) ∧ Below w'.heap.size w' w'' := by
  obtain ⟨a, b, c, d, rfl, h1, h2, h3, h4⟩ := h
  refine ⟨a, b, c, d, rfl, fun w' hb => ?_⟩
  refine (of1_any least most sm s a b c d w' hsm hs ((hb.cell (block_lt_of_cell h1)).trans h1) ((hb.cell (block_lt_of_cell h2)).trans h2) (h3.below hb h3.lt) ((hb.cell (block_lt_of_cell h4)).trans h4)).mono ?_
  rintro e w'' ⟨he, n, rfl⟩
  exact ⟨he, below_drawn (Below.refl _ _) n⟩

set_option maxRecDepth 100000 in
set_option maxHeartbeats 1000000 in
theorem letter_any (s : ByteArray) (w : World) (hs : s.size ≤ 1048576) :
    Calls Tryz.prog 57 #[.string s] w fun e w' => e = .returned (.bool (ofB 1 4 1 s.data.toList)) ∧ Below w.heap.size w w' := by
  have HO := Lib.hid (of_any 1 4 1 w)
  obtain ⟨r, hr⟩ : ∃ r, ofB 1 4 1 s.data.toList = r := ⟨_, rfl⟩
  rw [hr]
  have HR := Lib.hid hr
  clear hr
  go_enter Tryz.func57, Tryz.ntmps57
  go_wp2_with fail
  refine HO.out.mono ?_
  rintro e w1 ⟨⟨v, rfl, hv⟩, hb1⟩
  obtain ⟨a, b, c, d, rfl, hc⟩ := ofv_any hv s (by decide) hs
  rw [HR.out] at hc
  have HC := Lib.hid (hc w1 (Below.refl _ _))
  have HB := Lib.hid hb1
  clear hc hv hb1 HO
  go_wp2_with fail
  refine HC.out.mono ?_
  rintro e w2 ⟨rfl, hb2⟩
  have HB2 := Lib.hid (HB.out.trans (hb2.mono HB.out.size))
  clear hb2 HB
  go_wp2_with fail
  go_ret
  exact ⟨rfl, HB2.out⟩

theorem below_undrew {w w' : World} (h : Below w.drew.heap.size w.drew w') : Below w.heap.size w w' := (Below.refl _ w).drew.trans h
def setB (l : List UInt8) : Bool := ofB 1 30 15 l && ofB 1 1 1 (l.take 1)
set_option maxRecDepth 100000 in
set_option maxHeartbeats 1000000 in
theorem set_any (s : ByteArray) (w : World) (hs : s.size ≤ 1048576) :
    Calls Tryz.prog 55 #[.string s] w fun e w' => e = .returned (.bool (setB s.data.toList)) ∧ Below w.heap.size w w' := by
  have HO := Lib.hid (show ∀ W, Calls Tryz.prog 91 #[.int .i64 1, .int .i64 30, .int .u8 15] W fun e w' => (∃ v, e = .returned v ∧ IsOf w' v 1 30 15) ∧ Below W.heap.size W w' from fun W => of_any 1 30 15 W)
  have HO2 := Lib.hid (show ∀ W, Calls Tryz.prog 91 #[.int .i64 1, .int .i64 1, .int .u8 1] W fun e w' => (∃ v, e = .returned v ∧ IsOf w' v 1 1 1) ∧ Below W.heap.size W w' from fun W => of_any 1 1 1 W)
  obtain ⟨r, hr⟩ : ∃ r, ofB 1 30 15 s.data.toList = r := ⟨_, rfl⟩
  have HR := Lib.hid hr
  cases r with
  | false =>
    have HS := Lib.hid (show setB s.data.toList = false by rw [setB, hr]; rfl)
    clear hr
    go_enter Tryz.func55, Tryz.ntmps55
    go_wp2_with fail
    first
      | (go_region_with (first
          | ((go_at_call 91; (with_reducible refine (HO.out _).mono ?_); rintro e w1 ⟨⟨v, rfl, hv⟩, hb1⟩; obtain ⟨a, b, c, d, rfl, hc⟩ := ofv_any hv s (by decide) hs; rw [HR.out] at hc; have HC := Lib.hid hc; have HB := Lib.hid hb1; clear hv hc hb1))
          | ((go_at_call 124; refine (HC.out _ (by exact Below.refl _ _)).mono ?_; rintro e w2 ⟨rfl, hb2⟩; have HB2 := Lib.hid (HB.out.trans (hb2.mono HB.out.size)); clear hb2))))
      | fail
    all_goals
      go_wp2_with fail
      go_ret
      exact ⟨by rw [HS.out]; rfl, below_undrew HB2.out⟩
  | true =>
    have hl : 1 ≤ s.size := by
      have h := hr
      simp only [ofB, Bool.and_eq_true, decide_eq_true_eq] at h
      have := h.1.1
      simpa using this
    have hli : (1 : Int) ≤ (s.size : Int) := by omega
    obtain ⟨r, hr2⟩ : ∃ r, ofB 1 1 1 (s.data.toList.take 1) = r := ⟨_, rfl⟩
    have HS := Lib.hid (show setB s.data.toList = r by rw [setB, hr, hr2]; rfl)
    have HR2 := Lib.hid (show ofB 1 1 1 (s.extract 0 1).data.toList = r by rw [list_upto]; exact hr2)
    clear hr hr2
    go_enter Tryz.func55, Tryz.ntmps55
    go_wp2_with fail
    first
      | (go_region_held3 (fun _ => True) (trivial) (first
          | ((go_at_call 91; (with_reducible refine (HO.out _).mono ?_); rintro e w1 ⟨⟨v, rfl, hv⟩, hb1⟩; obtain ⟨a, b, c, d, rfl, hc⟩ := ofv_any hv s (by decide) hs; rw [HR.out] at hc; have HC := Lib.hid hc; have HB := Lib.hid hb1; clear hv hc hb1))
          | ((go_at_call 91; (with_reducible refine (HO2.out _).mono ?_); rintro e w3 ⟨⟨v, rfl, hv⟩, hb3⟩; obtain ⟨a2, b2, c2, d2, rfl, hc⟩ := ofv_any hv (s.extract 0 1) (by decide) (size_part _ _ _ _ hs); rw [HR2.out] at hc; have HC2 := Lib.hid hc; have HB3 := Lib.hid (HB2.out.trans (hb3.mono HB2.out.size)); clear hv hc hb3))
          | ((go_at_call 124; (with_reducible refine (HC.out _ ?_).mono ?_); (exact Below.refl _ _); rintro e w2 ⟨rfl, hb2⟩; have HB2 := Lib.hid (HB.out.trans (hb2.mono HB.out.size)); clear hb2))
          | ((go_at_call 124; (with_reducible refine (HC2.out _ ?_).mono ?_); (exact Below.refl _ _); rintro e w4 ⟨rfl, hb4⟩; have HB4 := Lib.hid (HB3.out.trans (hb4.mono HB3.out.size)); clear hb4))))
      | fail
    all_goals
      go_wp2_with fail
      go_ret
      exact ⟨by rw [HS.out]; rfl, below_undrew HB4.out⟩


def monthL : List (List UInt8) := [[106, 97, 110, 117, 97, 114, 121], [102, 101, 98, 114, 117, 97, 114, 121], [109, 97, 114, 99, 104], [97, 112, 114, 105, 108], [109, 97, 121], [106, 117, 110, 101], [106, 117, 108, 121], [97, 117, 103, 117, 115, 116], [115, 101, 112, 116, 101, 109, 98, 101, 114], [111, 99, 116, 111, 98, 101, 114], [110, 111, 118, 101, 109, 98, 101, 114], [100, 101, 99, 101, 109, 98, 101, 114]]
/-- the tables of months and of the words in place of years -/
def Months (w : World) : Prop := ∀ i l, monthL[i]? = some l → w.cell? ⟨0, i, none⟩ = some (.string ⟨l.toArray⟩)
theorem Months.below {w w' : World} (h : Months w) (hb : Below w.heap.size w w') : Months w' := fun i l hl => (hb.cell (block_lt_of_cell (h i l hl))).trans (h i l hl)
/-- the short word of a month -/
def monthT (m : Int) : List UInt8 := if 1 ≤ m ∧ m ≤ 12 then shortL (monthL.getD (m - 1).toNat []) else []
theorem monthL_at (i : Nat) (hi : i < 12) : ∃ a b c l, monthL[i]? = some (a :: b :: c :: l) ∧ (97 ≤ a.toNat ∧ a.toNat ≤ 122) ∧ l.length < 100 ∧ monthT ((i : Int) + 1) = [Lib.upperB a, b, c] := by
  rcases (by omega : i = 0 ∨ i = 1 ∨ i = 2 ∨ i = 3 ∨ i = 4 ∨ i = 5 ∨ i = 6 ∨ i = 7 ∨ i = 8 ∨ i = 9 ∨ i = 10 ∨ i = 11) with rfl | rfl | rfl | rfl | rfl | rfl | rfl | rfl | rfl | rfl | rfl | rfl
  all_goals exact ⟨_, _, _, _, rfl, by decide, by decide, by decide⟩
theorem monthT_len (m : Int) : (monthT m).length ≤ 3 := by
  by_cases hm : 1 ≤ m ∧ m ≤ 12
  · obtain ⟨n, hn⟩ := Int.eq_ofNat_of_zero_le (show 0 ≤ m - 1 by omega)
    obtain ⟨a, b, c, l, hl, ha, hn2, ht⟩ := monthL_at n (by omega)
    rw [show m = (n : Int) + 1 by omega, ht]; simp
  · rw [monthT, if_neg hm]; simp

set_option maxHeartbeats 400000 in
theorem monthText_any (m : Int) (w : World) (hW : Months w) (h0 : -1000000 ≤ m) (h1 : m ≤ 1000000) :
    Calls Tryz.prog 61 #[.int .i64 m] w fun e w' => e = .returned (.string ⟨(monthT m).toArray⟩) ∧ Below w.heap.size w w' := by
  by_cases hm : 1 ≤ m ∧ m ≤ 12
  · obtain ⟨n, hn⟩ := Int.eq_ofNat_of_zero_le (show 0 ≤ m - 1 by omega)
    obtain rfl : m = (n : Int) + 1 := by omega
    obtain ⟨a, b, c, l, hl, ha, hn2, ht⟩ := monthL_at n (by omega)
    have HC := Lib.hid (short_in 0 12 12 n (by omega) (by decide) a b c l (by omega) hn2 w (hW n _ hl))
    have HT := Lib.hid ht
    have hn1 : ¬ ((n : Int) + 1 < 1) := by omega
    clear hm hl ht hW hn
    go_enter Tryz.func61, Tryz.ntmps61
    go_wp2_with fail
    refine HC.out.mono ?_
    rintro e w1 ⟨rfl, hb⟩
    go_wp2_with fail
    go_ret
    exact ⟨by rw [HT.out]; rfl, hb⟩
  · have HT := Lib.hid (show monthT m = [] from if_neg hm)
    by_cases h2 : m < 1
    · clear hm hW
      go_enter Tryz.func61, Tryz.ntmps61
      go_wp2_with fail
      go_ret
      exact ⟨by rw [HT.out]; rfl, Below.refl _ _⟩
    · have HC := Lib.hid (short_out 0 12 12 (m - 1) (by omega) w)
      clear hm hW
      go_enter Tryz.func61, Tryz.ntmps61
      go_wp2_with fail
      refine HC.out.mono ?_
      rintro e w1 ⟨rfl, rfl⟩
      go_wp2_with fail
      go_ret
      exact ⟨by rw [HT.out]; rfl, Below.refl _ _⟩


theorem results_cell1_tmp {P : Program} {fn : Func} {p t : Tmp} {ty : TypeId} (h : fn.results = #[.cell p ty, .tmp t]) (tmps : Array Value) (w : World) (u v : Value) (a : Addr)
    (hp : tmps.getD p undef = .pointer (some a)) (hv : tmps.getD t undef = v) (hu : (loadVar ty a).run P w = .ok u w) :
    (results fn tmps).run P w = .ok (.tuple #[u, v]) w := by
  have hp' : tmps[p]?.getD undef = .pointer (some a) := by simpa using hp
  have hv' : tmps[t]?.getD undef = v := by simpa using hv
  simp [results, h, hp', hv', asAddr, hu]


def offTx (x : Int) : List UInt8 := (if x < 0 then [45] else []) ++ offT x.natAbs
def joinS : List (List UInt8) → List UInt8
  | [] => []
  | a :: r => if r = [] then a else a ++ 32 :: joinS r
-- years
theorem itoa_nat (n : Nat) : Lib.itoa (n : Int) = Lib.decDigits n := by simp [Lib.itoa]
theorem named_nat {y : Int} (h : namedB y = true) : ∃ n : Nat, y = (n : Int) ∧ 1850 ≤ n ∧ n ≤ 2149 := by
  have h := of_decide_eq_true h
  exact ⟨y.toNat, by omega, by omega, by omega⟩
-- months
theorem month_fin : ∀ m : Fin 12, wordR monthL 1 (monthT ((m.val : Int) + 1)) = ((m.val : Int) + 1, 0) ∧ ((monthT ((m.val : Int) + 1)).all fun c => c != 32) = true := by decide +kernel
theorem month_back {m : Int} (h : 1 ≤ m ∧ m ≤ 12) : wordR monthL 1 (monthT m) = (m, 0) ∧ ((monthT m).all fun c => c != 32) = true := by
  have := month_fin ⟨(m - 1).toNat, by omega⟩
  simp only [show (((m - 1).toNat : Nat) : Int) + 1 = m by omega] at this
  exact this
-- days
set_option maxRecDepth 100000 in
theorem day_fin : ∀ k : Fin 5, ∀ wk : Fin 7, ∀ d : Fin 32, rightDay k.val wk.val d.val = true → parseR (dayText k.val wk.val d.val) = (((k.val : Int), (wk.val : Int), (d.val : Int)), 0) ∧ ((dayText k.val wk.val d.val).all fun c => c != 32) = true ∧ (dayText k.val wk.val d.val).length ≤ 9 := by decide +kernel
theorem day_back {k wk d : Int} (h : rightDay k wk d = true) : parseR (dayText k wk d) = ((k, wk, d), 0) ∧ ((dayText k wk d).all fun c => c != 32) = true ∧ (dayText k wk d).length ≤ 9 := by
  obtain ⟨h1, h2, h3, h4, h5, h6⟩ := right_bd h
  have := day_fin ⟨k.toNat, by omega⟩ ⟨wk.toNat, by omega⟩ ⟨d.toNat, by omega⟩
  simp only [show ((k.toNat : Nat) : Int) = k by omega, show ((wk.toNat : Nat) : Int) = wk by omega, show ((d.toNat : Nat) : Int) = d by omega] at this
  exact this h
-- amounts
def tailT (s : Nat) : List UInt8 := if s ≠ 0 then [58] ++ twoT s else []
theorem offT_eq (n : Nat) : offT n = Lib.decDigits (n / 3600) ++ 58 :: (twoT (n / 60 % 60) ++ tailT (n % 60)) := by simp [offT, tailT]
theorem off_bytes {n : Nat} : ∀ c ∈ offT n, 48 ≤ c.toNat ∧ c.toNat ≤ 58 := by
  have hd : ∀ m : Nat, ∀ c ∈ Lib.decDigits m, 48 ≤ c.toNat ∧ c.toNat ≤ 58 := fun m c hc => by have := (dec_all m).1 c hc; omega
  have ht : ∀ m : Nat, ∀ c ∈ twoT m, 48 ≤ c.toNat ∧ c.toNat ≤ 58 := fun m c hc => by
    unfold twoT at hc
    split at hc
    · rcases List.mem_cons.1 hc with rfl | hc
      · decide
      · exact hd m c hc
    · exact hd m c hc
  intro c hc
  rw [offT_eq] at hc
  rcases List.mem_append.1 hc with hc | hc
  · exact hd _ c hc
  · rcases List.mem_cons.1 hc with rfl | hc
    · decide
    · rcases List.mem_append.1 hc with hc | hc
      · exact ht _ c hc
      · unfold tailT at hc
        split at hc
        · rcases List.mem_cons.1 hc with rfl | hc
          · decide
          · exact ht _ c (by simpa using hc)
        · simp at hc
-- clocks
-- words
theorem ofB_plain {a b m : Nat} {l : List UInt8} (h : ofB a b m l = true) : ∀ c ∈ l, c ≠ 32 := by
  intro c hc he
  subst he
  simp only [ofB, Bool.and_eq_true, List.all_eq_true] at h
  have := h.2 32 hc
  rw [show kindN (UInt8.toNat 32) = 0 by decide, Nat.zero_and] at this
  exact absurd this (by decide)
theorem all_plain {l : List UInt8} (h : (l.all fun c => c != 32) = true) : ∀ c ∈ l, c ≠ 32 := by
  intro c hc
  have := List.all_eq_true.1 h c hc
  simpa using this
theorem dec_plain (n : Nat) : ∀ c ∈ Lib.decDigits n, c ≠ 32 := by
  rintro c hc rfl
  have := (dec_all n).1 32 hc
  exact absurd this (by decide)
theorem off_plain (x : Int) : ∀ c ∈ offTx x, c ≠ 32 := by
  rintro c hc rfl
  rcases List.mem_append.1 hc with hc | hc
  · split at hc <;> simp at hc
  · have := off_bytes 32 hc
    exact absurd this (by decide)
theorem joinS_len : ∀ xs : List (List UInt8), (∀ x ∈ xs, x.length ≤ 30) → (joinS xs).length ≤ 31 * xs.length
  | [], _ => by simp [joinS]
  | x :: r, h => by
    have ih := joinS_len r fun y hy => h y (List.mem_cons_of_mem _ hy)
    have hx := h x (by simp)
    unfold joinS
    split
    · simp; omega
    · simp; omega
theorem dec_len4 (n : Nat) (h : n ≤ 9999) : (Lib.decDigits n).length ≤ 30 := by have := dec_len n h; omega
theorem off_len {x : Int} (h : -604799 ≤ x ∧ x ≤ 604799) : (offTx x).length ≤ 10 := by
  have := offT_len x.natAbs (by omega)
  unfold offTx
  split <;> simp <;> omega
theorem ofB_len {a b m : Nat} {l : List UInt8} (h : ofB a b m l = true) : a ≤ l.length ∧ l.length ≤ b := by
  simp only [ofB, Bool.and_eq_true, decide_eq_true_eq] at h
  exact h.1
theorem set_len {l : List UInt8} (h : setB l = true) : l.length ≤ 30 := by
  simp only [setB, Bool.and_eq_true] at h
  exact (ofB_len h.1).2
theorem rcell_drew {w : World} {p : Addr} {v : Value} (h : w.cell? p = some v) : w.drew.cell? p = some v := h
theorem rcell_alloc {w : World} {p : Addr} {v : Value} (h : w.cell? p = some v) (o : Obj) : (w.alloc o).cell? p = some v := (((Below.refl w.heap.size w).alloc (Nat.le_refl _) o).cell (block_lt_of_cell h)).trans h
theorem rbelow_alloc {w W : World} (h : Below w.heap.size w W) (o : Obj) : Below w.heap.size w (W.alloc o) := h.alloc h.size o
theorem strs_cells {w : World} {g : Nat} {t : TypeId} {cs : Array Value} (h : Blk w g t cs) (xs : List (List UInt8)) (hc : cs.toList = xs.map fun x => .string ⟨x.toArray⟩) : ∀ (j : Nat) x, xs[j]? = some x → w.cell? ⟨g, j, none⟩ = some (.string ⟨x.toArray⟩) := fun j x hj => h.cell_ (by rw [← Array.getElem?_toList, hc, List.getElem?_map, hj]; rfl)
theorem size_len (s : ByteArray) : s.size = s.data.toList.length := rfl
theorem off_cases (x : Int) : (-604799 ≤ x ∧ x ≤ 604799) ∧ offPrintR x = (offTx x, 0) ∨ ¬ (-604799 ≤ x ∧ x ≤ 604799) ∧ offPrintR x = ([], 3) := by
  by_cases h : -604799 ≤ x ∧ x ≤ 604799
  · exact .inl ⟨h, offPrint_ok x h.1 h.2⟩
  · exact .inr ⟨h, if_pos (by omega)⟩


def strV (ls : List (List UInt8)) : List Value := ls.map fun l => .string ⟨l.toArray⟩
theorem infoStr : (Tryz.prog.info? 9).map (fun i => (i.zero, i.size, i.bytes)) = some (some (.string ⟨#[]⟩), 1, 16) := by kernel_rfl
/-- a row of strings in memory -/
structure StrRow (w : World) (b o : Nat) (ls : List (List UInt8)) : Prop where
  lt : b < w.heap.size
  at_ : ∀ (j : Nat) l, ls[j]? = some l → w.cell? ⟨b, o + j, none⟩ = some (.string ⟨l.toArray⟩)
theorem StrRow.below {w w' : World} {b o : Nat} {ls : List (List UInt8)} (h : StrRow w b o ls) (hb : Below w.heap.size w w') : StrRow w' b o ls :=
  ⟨Nat.lt_of_lt_of_le h.lt hb.size, fun j l hl => (hb.cell (p := ⟨b, o + j, none⟩) h.lt).trans (h.at_ j l hl)⟩
theorem StrRow.tail {w : World} {b o : Nat} {a : List UInt8} {ls : List (List UInt8)} (h : StrRow w b o (a :: ls)) : StrRow w b (o + 1) ls :=
  ⟨h.lt, fun j l hl => by have := h.at_ (j + 1) l (by simpa using hl); rw [show o + 1 + j = o + (j + 1) by omega]; exact this⟩
theorem StrRow.own {w : World} {base g n cap : Nat} {ls : List (List UInt8)} (h : w.ownsRow base 9 1 (.slice (some ⟨g, 0, none⟩) n cap) n (strV ls)) (hg : g < w.heap.size) : StrRow w g 0 ls :=
  ⟨hg, fun j l hl => by
    have hj : j < ls.length := by
      rcases Nat.lt_or_ge j ls.length with h | h
      · exact h
      · rw [List.getElem?_eq_none h] at hl; cases hl
    have hn : ls.length = n := by have := h.1; simpa [strV] using this
    rw [Nat.zero_add, h.cellAt j (by omega), strV, List.getElem?_map, hl]; rfl⟩

/-- a slice of strings that came in -/
structure StrArg (w : World) (A : Option Addr) (ls : List (List UInt8)) : Prop where
  row : ls ≠ [] → ∃ b o, A = some ⟨b, o, none⟩ ∧ StrRow w b o ls
theorem StrArg.below {w w' : World} {A : Option Addr} {ls : List (List UInt8)} (h : StrArg w A ls) (hb : Below w.heap.size w w') : StrArg w' A ls :=
  ⟨fun h0 => by obtain ⟨b, o, hA, hr⟩ := h.row h0; exact ⟨b, o, hA, hr.below hb⟩⟩
theorem StrArg.reads {w : World} {A : Option Addr} {ls : List (List UInt8)} (h : StrArg w A ls) : Reads w w.heap.size 1 A ls.length (strV ls) := by
  refine ⟨by simp [strV], fun hn => ?_⟩
  obtain ⟨b, o, rfl, hr⟩ := h.row (by intro h; subst h; simp at hn)
  refine ⟨_, rfl, hr.lt, fun j u hu => ?_⟩
  rw [strV, List.getElem?_map] at hu
  cases hj : ls[j]? with
  | none => rw [hj] at hu; cases hu
  | some l =>
    rw [hj] at hu
    cases hu
    have := hr.at_ j l hj
    have e : (⟨b, o, none⟩ : Addr).add j = ⟨b, o + j, none⟩ := by unfold Addr.add; split <;> simp_all
    rw [e]; exact this
/-- everything but block g is as it was -/
structure But (g : Nat) (w w' : World) : Prop where
  os : w'.os = w.os
  tape : w'.tape = w.tape
  output : w'.output = w.output
  size : w.heap.size ≤ w'.heap.size
  block : ∀ k, k < w.heap.size → k ≠ g → w'.heap[k]? = w.heap[k]?
theorem But.of {g : Nat} {w w' : World} (h : Below w.heap.size w w') : But g w w' := ⟨h.os, h.tape, h.output, h.size, fun k hk _ => h.block k hk⟩
theorem But.set {g : Nat} {w w' : World} (h : But g w w') (i : Nat) (v : Value) : But g w (w'.setCell ⟨g, i, none⟩ v) :=
  ⟨h.os, h.tape, h.output, by simpa using h.size, fun k hk hne => (Below.heap_setCell w' ⟨g, i, none⟩ v k hne).trans (h.block k hk hne)⟩
theorem But.below {g B : Nat} {a w w' : World} (h : But g w w') (hb : Below B a w) (hg : B ≤ g) (hB : B ≤ a.heap.size) : Below B a w' :=
  ⟨h.os.trans hb.os, h.tape.trans hb.tape, h.output.trans hb.output, Nat.le_trans hb.size h.size, fun k hk => (h.block k (by have := hb.size; omega) (by omega)).trans (hb.block k hk)⟩
theorem Blk.but {w w' : World} {g b : Nat} {t : TypeId} {cs : Array Value} (h : Blk w b t cs) (hb : But g w w') (hne : b ≠ g) : Blk w' b t cs := (hb.block b h.lt hne).trans h

theorem str_ne {s : ByteArray} {l : List UInt8} (h : s.data.toList ≠ l) : (s.toList == l) = false := beq_eq_false_iff_ne.2 (by rw [Lib.toList_data]; exact h)
theorem str_of {s : ByteArray} {l : List UInt8} (h : s.data.toList = l) : s = ⟨l.toArray⟩ := by rw [← h]
end Go.Proofs.YtmcgbjjcpcgcfaaGreatDoor
