/-
  Numerals by strconv; offset.two, offset.Print: what the calls return.
-/
import Derived.Test.YtbdmieelokmhiaaGreatDoorStrs
import Derived.Test.YtbdmieelokmhiaaGreatDoorShelf2
import Derived.Lib.ItoaMem
import Derived.Lib.SmallJoins
set_option linter.unusedVariables false
namespace Go.Proofs.YtbdmieelokmhiaaGreatDoor
open Go.RowKit

/-- the table of the powers of ten, as strconv asks for it -/
def Pows (w : World) : Prop := Lib.TabIs Tryz.prog w "internal/strconv.uint64pow10" .u64 Lib.pow10Tab
theorem gPows : Tryz.prog.globalNamed "internal/strconv.uint64pow10" = some 12 := by kernel_rfl
theorem Pows.below {w w' : World} (h : Pows w) (hb : Below w.heap.size w w') : Pows w' := Joins.var_stays gPows h hb (Nat.le_refl _)

theorem below_laid (w : World) (q : Nat) (os : Array Obj) : Below w.heap.size w (Sort.grow (w.drewN q) os) :=
  ⟨rfl, rfl, rfl, by simp [Sort.grow], fun i hi => by
    show ((w.drewN q).heap ++ os)[i]? = _
    rw [Array.getElem?_append_left (by exact hi)]
    rfl⟩

theorem fmt_any (n : Nat) (w : World) (hP : Pows w) (h : n < 1000000000) :
    Calls Tryz.prog 147 #[.int .i64 (n : Int), .int .i64 10] w fun e w' => e = .returned (.string ⟨(Lib.decDigits n).toArray⟩) ∧ Below w.heap.size w w' := by
  refine (Any.strconv_FormatInt_10 Tryz.laysM173 (n : Int) (by omega) (by omega) w hP).mono ?_
  rintro e w' ⟨h1, k, os, rfl⟩
  rw [Lib.itoa_nonneg] at h1
  exact ⟨h1, below_laid _ _ _⟩
theorem itoa_any (n : Int) (w : World) (hP : Pows w) (h0 : -9223372036854775808 ≤ n) (h1 : n ≤ 9223372036854775807) :
    Calls Tryz.prog 95 #[.int .i64 n] w fun e w' => e = .returned (.string ⟨(Lib.itoa n).toArray⟩) ∧ Below w.heap.size w w' := by
  refine (Any.strconv_Itoa Tryz.laysM171 n h0 h1 w hP).mono ?_
  rintro e w' ⟨h1, k, os, rfl⟩
  exact ⟨h1, below_laid _ _ _⟩

def twoT (n : Nat) : List UInt8 := if n < 10 then 48 :: Lib.decDigits n else Lib.decDigits n
def offT (x : Nat) : List UInt8 := Lib.decDigits (x / 3600) ++ [58] ++ twoT (x / 60 % 60) ++ (if x % 60 ≠ 0 then [58] ++ twoT (x % 60) else [])
def offPrintR (x : Int) : List UInt8 × Int := if x < -604799 ∨ 604799 < x then ([], 3) else ((if x < 0 then [45] else []) ++ offT x.natAbs, 0)

theorem dig_len (n : Nat) (h : n < 1000) : (Lib.decDigits n).length ≤ 3 := by
  have h' : ∀ n : Fin 1000, (Lib.decDigits n.val).length ≤ 3 := by decide +kernel
  exact h' ⟨n, h⟩
theorem twoT_len (n : Nat) (h : n < 100) : (twoT n).length ≤ 2 := by
  have h' : ∀ n : Fin 100, (twoT n.val).length ≤ 2 := by decide +kernel
  exact h' ⟨n, h⟩

set_option maxRecDepth 100000 in
set_option maxHeartbeats 1000000 in
theorem two_any (n : Nat) (w : World) (h : n < 100) (hP : Pows w) :
    Calls Tryz.prog 148 #[.int .i64 (n : Int)] w fun e w' => e = .returned (.string ⟨(twoT n).toArray⟩) ∧ Below w.heap.size w w' := by
  have hl := dig_len n (by omega)
  have HF := Lib.hid (fmt_any n w hP (by omega))
  by_cases h10 : n < 10
  · have HT := Lib.hid (show twoT n = 48 :: Lib.decDigits n from if_pos h10)
    generalize Lib.decDigits n = dl at *
    have hi : (n : Int) < 10 := by omega
    go_enter Tryz.func148, Tryz.ntmps148
    go_wp2_with fail
    refine HF.out.mono ?_
    rintro e w1 ⟨rfl, hb1⟩
    go_wp2_with fail
    go_ret
    refine ⟨?_, hb1⟩
    rw [HT.out]
    simp [ba_append]
  · have HT := Lib.hid (show twoT n = Lib.decDigits n from if_neg h10)
    generalize Lib.decDigits n = dl at *
    have hi : ¬ (n : Int) < 10 := by omega
    go_enter Tryz.func148, Tryz.ntmps148
    go_wp2_with fail
    refine HF.out.mono ?_
    rintro e w1 ⟨rfl, hb1⟩
    go_wp2_with fail
    go_ret
    refine ⟨?_, hb1⟩
    rw [HT.out]; rfl

theorem below_drew {B : Nat} {a w : World} (h : Below B a w) : Below B a w.drew := h.drew

set_option maxRecDepth 100000 in
set_option maxHeartbeats 1000000 in
theorem offPrint_out (x : Int) (w : World) (hr : x < -604799 ∨ 604799 < x) :
    Calls Tryz.prog 114 #[.int .i64 x] w fun e w' => e = .returned (.tuple #[.string ⟨#[]⟩, .int .i64 3]) ∧ Below w.heap.size w w' := by
  rcases hr with hr | hr
  all_goals
    go_enter Tryz.func114, Tryz.ntmps114
    go_wp2_with fail
    go_ret2
    exact ⟨rfl, Below.refl _ _⟩

set_option maxRecDepth 100000 in
set_option maxHeartbeats 1000000 in
theorem offPrint_in (n : Nat) (x : Int) (sg : List UInt8) (w : World) (hP : Pows w) (h1 : n ≤ 604799) (hx : (x = (n : Int) ∧ sg = []) ∨ (x = -(n : Int) ∧ 0 < n ∧ sg = [45])) :
    Calls Tryz.prog 114 #[.int .i64 x] w fun e w' => e = .returned (.tuple #[.string ⟨(sg ++ offT n).toArray⟩, .int .i64 0]) ∧ Below w.heap.size w w' := by
  have HF := Lib.hid (show ∀ W (y : Int), Below w.heap.size w W → y = ((n / 3600 : Nat) : Int) → Calls Tryz.prog 147 #[.int .i64 y, .int .i64 10] W fun e w' => e = .returned (.string ⟨(Lib.decDigits (n / 3600)).toArray⟩) ∧ Below W.heap.size W w' from fun W y hW hy => hy ▸ fmt_any _ W (hP.below hW) (by omega))
  have HM := Lib.hid (show ∀ W (y : Int), Below w.heap.size w W → y = ((n / 60 % 60 : Nat) : Int) → Calls Tryz.prog 148 #[.int .i64 y] W fun e w' => e = .returned (.string ⟨(twoT (n / 60 % 60)).toArray⟩) ∧ Below W.heap.size W w' from fun W y hW hy => hy ▸ two_any _ W (by omega) (hP.below hW))
  have HS := Lib.hid (show ∀ W (y : Int), Below w.heap.size w W → y = ((n % 60 : Nat) : Int) → Calls Tryz.prog 148 #[.int .i64 y] W fun e w' => e = .returned (.string ⟨(twoT (n % 60)).toArray⟩) ∧ Below W.heap.size W w' from fun W y hW hy => hy ▸ two_any _ W (by omega) (hP.below hW))
  have hl1 := dig_len (n / 3600) (by omega)
  have hl2 := twoT_len (n / 60 % 60) (by omega)
  have hl3 := twoT_len (n % 60) (by omega)
  have HT := Lib.hid (show offT n = Lib.decDigits (n / 3600) ++ [58] ++ twoT (n / 60 % 60) ++ (if n % 60 ≠ 0 then [58] ++ twoT (n % 60) else []) from rfl)
  clear hP
  generalize Lib.decDigits (n / 3600) = d1 at *
  generalize twoT (n / 60 % 60) = d2 at *
  generalize twoT (n % 60) = d3 at *
  rcases hx with ⟨rfl, rfl⟩ | ⟨rfl, h0, rfl⟩
  all_goals
    have hb0 : Below w.heap.size w w := Below.refl _ _
    go_enter Tryz.func114, Tryz.ntmps114
    go_wp2_with fail
    refine (HF.out _ _ hb0 (by omega)).mono ?_
    rintro e w1 ⟨rfl, hb1⟩
    go_wp2_with fail
    refine (HM.out _ _ hb1 (by omega)).mono ?_
    rintro e w2 ⟨rfl, hb2⟩
    have hb3 := hb1.trans (hb2.mono hb1.size)
    clear hb1 hb2 HF HM
    by_cases hs : n % 60 = 0
    · have HT2 := Lib.hid (show offT n = d1 ++ [58] ++ d2 by rw [HT.out, if_neg (by omega), List.append_nil])
      have hs2 : (n : Int) % 60 = 0 := by omega
      clear HS HT
      go_wp2_with fail
      go_ret2
      refine ⟨?_, hb3⟩
      rw [HT2.out]
      simp [ba_append]
    · have HT2 := Lib.hid (show offT n = d1 ++ [58] ++ d2 ++ ([58] ++ d3) by rw [HT.out, if_pos (by omega)])
      have hs2 : ¬ (n : Int) % 60 = 0 := by omega
      clear HT
      go_wp2_with fail
      refine (HS.out _ _ hb3 (by omega)).mono ?_
      rintro e w4 ⟨rfl, hb4⟩
      have hb5 := hb3.trans (hb4.mono hb3.size)
      clear hb3 hb4 HS
      go_wp2_with fail
      go_ret2
      refine ⟨?_, hb5⟩
      rw [HT2.out]
      simp [ba_append]

theorem offPrint_any (x : Int) (w : World) (hP : Pows w) :
    Calls Tryz.prog 114 #[.int .i64 x] w fun e w' => e = .returned (.tuple #[.string ⟨(offPrintR x).1.toArray⟩, .int .i64 (offPrintR x).2]) ∧ Below w.heap.size w w' := by
  by_cases hr : x < -604799 ∨ 604799 < x
  · rw [show offPrintR x = ([], 3) from if_pos hr]
    exact offPrint_out x w hr
  · rw [show offPrintR x = ((if x < 0 then [45] else []) ++ offT x.natAbs, 0) from if_neg hr]
    by_cases hn : x < 0
    · rw [if_pos hn]
      exact offPrint_in x.natAbs x [45] w hP (by omega) (.inr ⟨by omega, by omega, rfl⟩)
    · rw [if_neg hn]
      exact offPrint_in x.natAbs x [] w hP (by omega) (.inl ⟨by omega, rfl⟩)
end Go.Proofs.YtbdmieelokmhiaaGreatDoor
