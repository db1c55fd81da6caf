/-
  What comes in as a slice of bytes, in the shell's words, reads as a list; plain facts on what was appended.
-/
import Derived.Test.YtaghbkmommdmgaaBigW
import Derived.Test.YtaghbkmommdmgaaBigPlainB
import Derived.OpenShut
namespace Go.Proofs.Ytaghbkmommdmgaa
open Go.RowKit

def IsRowU8 (w : World) (a : Option Addr) (len cap : Nat) (zs : List Int) : Prop :=
  (a = none ∧ len = 0 ∧ cap = 0 ∧ zs = []) ∨
  ∃ x, a = some x ∧ len ≤ cap ∧ cap ≤ maxLen ∧ zs.length = cap ∧ (∀ i, i < zs.length → w.cell? (x.add i) = some (.int .u8 (zs.getD i 0))) ∧ ∀ n ∈ zs, (Lit.int .u8 n).wf = true

theorem IsRowU8.rd {w : World} {a : Option Addr} {len cap : Nat} {zs : List Int} (h : IsRowU8 w a len cap zs) : Rd w a len (zs.take len) ∧ len ≤ cap ∧ (∀ x ∈ zs.take len, 0 ≤ x ∧ x < 256) := by
  rcases h with ⟨rfl, rfl, rfl, rfl⟩ | ⟨x, rfl, hl, _, hz, hc, hw⟩
  · exact ⟨Reads.none_, Nat.le_refl _, by simp⟩
  · refine ⟨⟨by simp [bys]; omega, fun hn => ⟨x, rfl, ?_, fun j u hu => ?_⟩⟩, hl, fun y hy => ?_⟩
    · have := block_lt_of_cell (hc 0 (by omega))
      rwa [block_of_add] at this
    · have hj : j < len := by
        have := (List.getElem?_eq_some_iff.1 hu).1
        simp [bys] at this
        omega
      rw [hc j (by omega), ← hu]
      simp [bys, hj, List.getElem?_eq_getElem (show j < zs.length by omega), List.getD]
    · have := bounds_u8 (hw y (List.mem_of_mem_take hy))
      omega

theorem num_be {s x : Int} (hs : isSize s = true) (hx : -9223372036854775808 ≤ x ∧ x ≤ 9223372036854775807) (hf : fits s x = true) : numOf (be s.toNat x) = x := by
  rcases isSize_iff.1 hs with rfl | rfl | rfl
  · have e : sgnOf 1 x = x / 128 := rfl
    have h : x / 128 = 0 ∨ x / 128 = -1 := by simpa [fits, e] using hf
    show sgn8 (byteZ x 0) = x
    rw [bz0, sgn8]
    split <;> omega
  · have e : sgnOf 4 x = x / 2147483648 := rfl
    have h : x / 2147483648 = 0 ∨ x / 2147483648 = -1 := by simpa [fits, e] using hf
    show ((sgn8 (byteZ x 3) * 256 + byteZ x 2) * 256 + byteZ x 1) * 256 + byteZ x 0 = x
    rw [bz0, bz1, bz2, bz3, sgn8]
    split <;> omega
  · show ((((((sgn8 (byteZ x 7) * 256 + byteZ x 6) * 256 + byteZ x 5) * 256 + byteZ x 4) * 256 + byteZ x 3) * 256 + byteZ x 2) * 256 + byteZ x 1) * 256 + byteZ x 0 = x
    rw [bz0, bz1, bz2, bz3, bz4, bz5, bz6, bz7, sgn8]
    split <;> omega
theorem get_put {l : List Int} {s x : Int} (hs : isSize s = true) (hx : -9223372036854775808 ≤ x ∧ x ≤ 9223372036854775807) (hf : fits s x = true) : getR (l ++ be s.toNat x) l.length s = (x, 0) := by
  have h1 : 1 ≤ s := by rcases isSize_iff.1 hs with h | h | h <;> omega
  rw [getR_ok hs (by omega) (by simp [be_length]; omega)]
  rw [show ((l.length : Int)).toNat = l.length by omega, List.drop_left, List.take_of_length_le (by simp [be_length]), num_be hs hx hf]
theorem fits_1 (x : Int) : fits 1 x = (decide (-128 ≤ x) && decide (x < 128)) := by
  have e : sgnOf 1 x = x / 128 := rfl
  rw [Bool.eq_iff_iff]; simp [fits, e]; omega
theorem fits_4 (x : Int) : fits 4 x = (decide (-2147483648 ≤ x) && decide (x < 2147483648)) := by
  have e : sgnOf 4 x = x / 2147483648 := rfl
  rw [Bool.eq_iff_iff]; simp [fits, e]; omega
end Go.Proofs.Ytaghbkmommdmgaa
