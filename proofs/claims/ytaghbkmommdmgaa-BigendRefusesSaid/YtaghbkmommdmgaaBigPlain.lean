/-
  Plain functions of bytes: the big-endian bytes of a number, the number of bytes, and what is refused. No program here.
-/
import Derived.Laws.BitsAllLaws
import Derived.Laws.BitsLemmas
import Derived.IntWalk
namespace Go.Proofs.Ytaghbkmommdmgaa
def isSize (n : Int) : Bool := n == 1 || n == 4 || n == 8
theorem isSize_iff {n : Int} : isSize n = true ↔ n = 1 ∨ n = 4 ∨ n = 8 := by simp [isSize, or_assoc]
def bytesR (l : List Int) (a n : Int) : List Int × Int :=
  if n < 0 then ([], 2) else if a < 0 ∨ (l.length : Int) < a ∨ (l.length : Int) - a < n then ([], 19) else ((l.drop a.toNat).take n.toNat, 0)
def sgn8 (c : Int) : Int := if 128 ≤ c then c - 256 else c
def foldB (x : Int) (l : List Int) : Int := l.foldl (fun x c => x * 256 + c) x
def numOf : List Int → Int
  | [] => 0
  | c :: cs => foldB (sgn8 c) cs
def getR (l : List Int) (a n : Int) : Int × Int :=
  if isSize n = false then (0, 2) else if (bytesR l a n).2 ≠ 0 then (0, (bytesR l a n).2) else (numOf (bytesR l a n).1, 0)
/-- the byte of x with k bytes behind it -/
def byteZ (x k : Int) : Int := (x / 2 ^ (8 * k).toNat) % 256
def be (n : Nat) (x : Int) : List Int := (List.range n).map fun (i : Nat) => byteZ x ((n : Int) - 1 - (i : Int))
/-- what is left of x before its highest bit of n bytes: the sign alone, if x fits -/
def sgnOf (n x : Int) : Int := x / 2 ^ (8 * n - 1).toNat
def fits (n x : Int) : Bool := sgnOf n x == 0 || sgnOf n x == -1
def putR (l : List Int) (n : Int) (x : Int) : List Int × Int :=
  if isSize n = false then ([], 2) else if fits n x = false then ([], 3) else (l ++ be n.toNat x, 0)
theorem be_length (n : Nat) (x : Int) : (be n x).length = n := by simp [be]
theorem be_snoc (n : Nat) (x : Int) (k : Nat) (h : k < n) : (be n x).take (k + 1) = (be n x).take k ++ [byteZ x (n - 1 - k)] := by
  rw [List.take_succ_eq_append_getElem (by simpa [be] using h)]; simp [be]
theorem byteZ_bd (x k : Int) : 0 ≤ byteZ x k ∧ byteZ x k < 256 := by unfold byteZ; omega
theorem be_bd (n : Nat) (x : Int) : ∀ c ∈ be n x, 0 ≤ c ∧ c < 256 := by
  intro c hc; obtain ⟨i, _, rfl⟩ := List.mem_map.1 hc; exact byteZ_bd _ _
theorem wrap_i8_ (n : Int) : IntKind.i8.wrap n = (n + 128) % 256 - 128 := by
  simp [IntKind.wrap, IntKind.bits, IntKind.signed]
  split <;> omega
theorem wrap_sgn8 {c : Int} (h : 0 ≤ c ∧ c < 256) : RowKit.wrap64 (IntKind.i8.wrap c) = sgn8 c := by
  rw [wrap_i8_, sgn8, RowKit.wrap64]
  split <;> omega
theorem or_low (y c : Int) (hy : -36028797018963968 ≤ y ∧ y < 36028797018963968) (hc : 0 ≤ c ∧ c < 256) : bits .or .i64 (y * 256) c = y * 256 + c := by
  have t1 := BitVec.toNat_ofInt (n := 64) (i := y * 256)
  have t2 := BitVec.toNat_ofInt (n := 64) (i := c)
  obtain ⟨q, hq⟩ : ∃ q : Nat, (BitVec.ofInt 64 (y * 256)).toNat = q <<< 8 := ⟨(BitVec.ofInt 64 (y * 256)).toNat / 256, by rw [Nat.shiftLeft_eq]; omega⟩
  have hlt : (BitVec.ofInt 64 c).toNat < 2 ^ 8 := by omega
  have hor : (BitVec.ofInt 64 (y * 256) ||| BitVec.ofInt 64 c).toNat = q <<< 8 + (BitVec.ofInt 64 c).toNat := by
    rw [BitVec.toNat_or, hq, Nat.shiftLeft_add_eq_or_of_lt hlt]
  show IntKind.i64.wrap ((BitVec.ofInt 64 (y * 256) ||| BitVec.ofInt 64 c).toNat : Int) = _
  rw [hor, IntKind.wrap_i64, ← hq]
  omega
theorem foldB_snoc (x : Int) (l : List Int) (c : Int) : foldB x (l ++ [c]) = foldB x l * 256 + c := by simp [foldB]
theorem sgn8_bd {c : Int} (h : 0 ≤ c ∧ c < 256) : -128 ≤ sgn8 c ∧ sgn8 c < 128 := by unfold sgn8; split <;> omega
theorem foldB_bd (x : Int) (hx : -128 ≤ x ∧ x < 128) (l : List Int) (hl : ∀ c ∈ l, 0 ≤ c ∧ c < 256) : -(128 * 256 ^ l.length) ≤ foldB x l ∧ foldB x l < 128 * 256 ^ l.length := by
  suffices h : ∀ (l : List Int) (x M : Int), -M ≤ x → x < M → (∀ c ∈ l, 0 ≤ c ∧ c < 256) → -(M * 256 ^ l.length) ≤ foldB x l ∧ foldB x l < M * 256 ^ l.length from h l x 128 hx.1 hx.2 hl
  intro l
  induction l with
  | nil => intro x M h1 h2 _; simp [foldB]; omega
  | cons c cs ih =>
    intro x M h1 h2 hl
    have hc := hl c (by simp)
    have := ih (x * 256 + c) (M * 256) (by omega) (by omega) (fun c hc => hl c (by simp [hc]))
    rw [Int.mul_assoc, ← Int.pow_succ'] at this
    exact this
theorem foldB_bd6 (x : Int) (hx : -128 ≤ x ∧ x < 128) (l : List Int) (hl : ∀ c ∈ l, 0 ≤ c ∧ c < 256) (hk : l.length ≤ 6) : -36028797018963968 ≤ foldB x l ∧ foldB x l < 36028797018963968 := by
  have h := foldB_bd x hx l hl
  have hp : (256 : Int) ^ l.length ≤ 281474976710656 := by
    generalize l.length = k at hk
    have : k = 0 ∨ k = 1 ∨ k = 2 ∨ k = 3 ∨ k = 4 ∨ k = 5 ∨ k = 6 := by omega
    rcases this with rfl | rfl | rfl | rfl | rfl | rfl | rfl <;> decide
  omega
theorem take_snoc_getD (l : List Int) (k : Nat) (h : k < l.length) : l.take (k + 1) = l.take k ++ [l.getD k 0] := by
  rw [List.take_succ_eq_append_getElem h]; simp [List.getD, List.getElem?_eq_getElem h]
end Go.Proofs.Ytaghbkmommdmgaa
