/-
  Bytes in the order of strings and the numbers that they are: no program here.
-/
import Derived.Test.YtaghbkmommdmgaaBigPlainB
import Derived.Lib.BytesEntry
namespace Go.Proofs.Ytaghbkmommdmgaa

def valB : List Int → Int
  | [] => 0
  | a :: l => a * 256 ^ l.length + valB l
def cmpI (a b : Int) : Int := if a < b then -1 else if b < a then 1 else 0
theorem valB_bd : ∀ l : List Int, (∀ c ∈ l, 0 ≤ c ∧ c < 256) → 0 ≤ valB l ∧ valB l < 256 ^ l.length
  | [], _ => by simp [valB]
  | a :: l, h => by
    have ih := valB_bd l (fun c hc => h c (by simp [hc]))
    have ha := h a (by simp)
    have hp : (0 : Int) < 256 ^ l.length := Int.pow_pos (by decide)
    have h1 : 0 ≤ a * 256 ^ l.length := Int.mul_nonneg ha.1 (Int.le_of_lt hp)
    have h2 : (a + 1) * 256 ^ l.length ≤ 256 * 256 ^ l.length := Int.mul_le_mul_of_nonneg_right (by omega) (Int.le_of_lt hp)
    simp only [valB, List.length_cons, Int.pow_succ']
    rw [Int.add_mul] at h2
    omega
theorem u8_lt {a b : Int} (ha : 0 ≤ a ∧ a < 256) (hb : 0 ≤ b ∧ b < 256) : (UInt8.ofNat a.toNat < UInt8.ofNat b.toNat) ↔ a < b := by
  rw [UInt8.lt_iff_toNat_lt, UInt8.toNat_ofNat', UInt8.toNat_ofNat']
  omega
theorem cmp_val : ∀ (l m : List Int), l.length = m.length → (∀ c ∈ l, 0 ≤ c ∧ c < 256) → (∀ c ∈ m, 0 ≤ c ∧ c < 256) →
    Lib.compareBytes (Lib.bytesOf l) (Lib.bytesOf m) = cmpI (valB l) (valB m)
  | [], [], _, _, _ => rfl
  | [], _ :: _, h, _, _ => by simp at h
  | _ :: _, [], h, _, _ => by simp at h
  | a :: l, b :: m, h, hl, hm => by
    have hlen : l.length = m.length := by simpa using h
    have ih := cmp_val l m hlen (fun c hc => hl c (by simp [hc])) (fun c hc => hm c (by simp [hc]))
    have ha := hl a (by simp)
    have hb := hm b (by simp)
    have vl := valB_bd l (fun c hc => hl c (by simp [hc]))
    have vm := valB_bd m (fun c hc => hm c (by simp [hc]))
    have hp : (0 : Int) < 256 ^ m.length := Int.pow_pos (by decide)
    show (if UInt8.ofNat a.toNat < UInt8.ofNat b.toNat then (-1 : Int) else if UInt8.ofNat b.toNat < UInt8.ofNat a.toNat then 1 else Lib.compareBytes (Lib.bytesOf l) (Lib.bytesOf m)) = _
    simp only [u8_lt ha hb, u8_lt hb ha, ih, valB, hlen, cmpI] at *
    generalize (256 : Int) ^ m.length = P at *
    by_cases h1 : a < b
    · have h2 : (a + 1) * P ≤ b * P := Int.mul_le_mul_of_nonneg_right (by omega) (Int.le_of_lt hp)
      rw [Int.add_mul] at h2
      rw [if_pos h1, if_pos (by omega)]
    · by_cases h3 : b < a
      · have h2 : (b + 1) * P ≤ a * P := Int.mul_le_mul_of_nonneg_right (by omega) (Int.le_of_lt hp)
        rw [Int.add_mul] at h2
        rw [if_neg h1, if_pos h3, if_neg (by omega), if_pos (by omega)]
      · obtain rfl : a = b := by omega
        have e1 : (a * P + valB l < a * P + valB m) ↔ valB l < valB m := by omega
        have e2 : (a * P + valB m < a * P + valB l) ↔ valB m < valB l := by omega
        rw [if_neg h1, if_neg h1]
        simp only [e1, e2]
theorem val_be8 (x : Int) : valB (be 8 x) = x % 18446744073709551616 := by
  rw [be8]
  simp only [valB, List.length_cons, List.length_nil, Nat.reduceAdd, Int.reducePow]
  rw [bz0, bz1, bz2, bz3, bz4, bz5, bz6, bz7]
  omega
theorem cmp_be8 (x y : Int) : Lib.compareBytes (Lib.bytesOf (be 8 x)) (Lib.bytesOf (be 8 y)) = cmpI (x % 18446744073709551616) (y % 18446744073709551616) := by
  rw [cmp_val _ _ (by simp [be_length]) (be_bd 8 x) (be_bd 8 y), val_be8, val_be8]
theorem cmp_same {x y : Int} (hx : -9223372036854775808 ≤ x ∧ x ≤ 9223372036854775807) (hy : -9223372036854775808 ≤ y ∧ y ≤ 9223372036854775807) (h : x < 0 ↔ y < 0) :
    Lib.compareBytes (Lib.bytesOf (be 8 x)) (Lib.bytesOf (be 8 y)) = cmpI x y := by
  rw [cmp_be8, cmpI, cmpI]
  by_cases h0 : x < 0
  · have := h.1 h0
    rw [show x % 18446744073709551616 = x + 18446744073709551616 by omega, show y % 18446744073709551616 = y + 18446744073709551616 by omega]
    simp only [Int.add_lt_add_iff_right]
  · have h1 : ¬ y < 0 := fun h' => h0 (h.2 h')
    rw [show x % 18446744073709551616 = x by omega, show y % 18446744073709551616 = y by omega]
theorem cmp_other {x y : Int} (hx : -9223372036854775808 ≤ x ∧ x ≤ 9223372036854775807) (hy : -9223372036854775808 ≤ y ∧ y ≤ 9223372036854775807) (h : ¬ (x < 0 ↔ y < 0)) :
    Lib.compareBytes (Lib.bytesOf (be 8 x)) (Lib.bytesOf (be 8 y)) = cmpI y x := by
  rw [cmp_be8, cmpI, cmpI]
  by_cases h0 : x < 0
  · have h1 : ¬ y < 0 := fun h' => h ⟨fun _ => h', fun _ => h0⟩
    rw [show x % 18446744073709551616 = x + 18446744073709551616 by omega, show y % 18446744073709551616 = y by omega, if_neg (by omega), if_pos (by omega), if_neg (by omega), if_pos (by omega)]
  · have h1 : y < 0 := by by_cases h1 : y < 0; exact h1; exact absurd ⟨fun a => absurd a h0, fun a => absurd a h1⟩ h
    rw [show x % 18446744073709551616 = x by omega, show y % 18446744073709551616 = y + 18446744073709551616 by omega, if_pos (by omega), if_pos (by omega)]

/-- the model's entry of bytealg.Compare at two rows of bytes -/
theorem run_cmp_rows {P : Program} (w : World) (a b : Addr) (c d : Nat) (xs ys : List Int) (ha : ∀ j x, xs[j]? = some x → w.cell? (a.add j) = some (.int .u8 x)) (hb : ∀ j x, ys[j]? = some x → w.cell? (b.add j) = some (.int .u8 x)) :
    (Extern.BytealgCompare.compare #[.slice (some a) xs.length c, .slice (some b) ys.length d]).run P w = .ok (.int .i64 (Lib.compareBytes (Lib.bytesOf xs) (Lib.bytesOf ys))) w := by
  have h1 := Lib.run_loadBytesX (P := P) w xs a .empty ha
  have h2 := Lib.run_loadBytesX (P := P) w ys b .empty hb
  have he : ∀ l : List UInt8, (⟨ByteArray.empty.data ++ l.toArray⟩ : ByteArray) = ⟨l.toArray⟩ := by
    intro l
    apply ByteArray.ext
    show (#[] : Array UInt8) ++ l.toArray = l.toArray
    simp
  rw [he] at h1 h2
  have hs := Lib.run_compareString (P := P) ⟨(Lib.bytesOf xs).toArray⟩ ⟨(Lib.bytesOf ys).toArray⟩ w
  change Sem.run P (do pure (goInt (Extern.BytealgCompare.cmp (← Extern.Bytes.bytesOf (.slice (some a) xs.length c)) (← Extern.Bytes.bytesOf (.slice (some b) ys.length d))))) w = _
  change Sem.run P (do pure (goInt (Extern.BytealgCompare.cmp (← Extern.Bytes.bytesOf (.string ⟨(Lib.bytesOf xs).toArray⟩)) (← Extern.Bytes.bytesOf (.string ⟨(Lib.bytesOf ys).toArray⟩))))) w = _ at hs
  simp only [Extern.Bytes.bytesOf, Sem.run_bind, Sem.run_pure, h1, h2, Result.andThen] at hs ⊢
  exact hs
end Go.Proofs.Ytaghbkmommdmgaa
