/-
  turned: words in other cases.
-/
import Derived.Test.YtgfnnmdngckmmaaGreatDoorRuleDraft
set_option linter.unusedVariables false
namespace Go.Proofs.YtgfnnmdngckmmaaGreatDoor
open Go.RowKit

def isLet (x : Int) : Prop := (65 ≤ x ∧ x ≤ 90) ∨ (97 ≤ x ∧ x ≤ 122)
/-- one number in the case of another, or not -/
def Turn1 (x y : Int) : Prop := lowZ y = lowZ x ∧ 65 ≤ y ∧ y ≤ 122
theorem turn1_fin : ∀ x : Fin 256, (65 ≤ x.val ∧ x.val ≤ 90) ∨ (97 ≤ x.val ∧ x.val ≤ 122) → lowZ (bits BinOp.xor IntKind.u8 (x.val : Int) 32) = lowZ (x.val : Int) ∧ 65 ≤ bits BinOp.xor IntKind.u8 (x.val : Int) 32 ∧ bits BinOp.xor IntKind.u8 (x.val : Int) 32 ≤ 122 := by decide +kernel
theorem turn1_flip {x : Int} (h : isLet x) : Turn1 x (bits BinOp.xor IntKind.u8 x 32) := by
  obtain ⟨n, rfl⟩ := Int.eq_ofNat_of_zero_le (show 0 ≤ x by rcases h with h | h <;> omega)
  unfold isLet at h
  exact turn1_fin ⟨n, by omega⟩ (by simp only; omega)
theorem turn1_same {x : Int} (h : isLet x) : Turn1 x x := ⟨rfl, by rcases h with h | h <;> omega, by rcases h with h | h <;> omega⟩
/-- the row behind k rounds -/
structure Turned (xs : List Int) (k : Nat) (ys : List Int) : Prop where
  len : ys.length = xs.length
  before : ∀ j, j < k → j < xs.length → Turn1 (xs.getD j 0) (ys.getD j 0)
  behind : ∀ j, k ≤ j → ys.getD j 0 = xs.getD j 0
theorem Turned.start (xs : List Int) : Turned xs 0 xs := ⟨rfl, fun j hj => absurd hj (by omega), fun j _ => rfl⟩
theorem Turned.keep {xs ys : List Int} {k : Nat} (h : Turned xs k ys) (hl : isLet (xs.getD k 0)) : Turned xs (k + 1) ys :=
  ⟨h.len, fun j hj hx => by
    by_cases hjk : j = k
    · subst hjk; rw [h.behind j (Nat.le_refl _)]; exact turn1_same hl
    · exact h.before j (by omega) hx, fun j hj => h.behind j (by omega)⟩
theorem Turned.flip {xs ys : List Int} {k : Nat} (h : Turned xs k ys) (hk : k < xs.length) {y : Int} (hy : Turn1 (xs.getD k 0) y) : Turned xs (k + 1) (ys.set k y) :=
  ⟨by simp [h.len], fun j hj hx => by
    by_cases hjk : j = k
    · subst hjk
      simp only [List.getD, List.getElem?_set_self (show j < ys.length by rw [h.len]; exact hk), Option.getD_some]
      exact hy
    · have := h.before j (by omega) hx
      simpa only [List.getD, List.getElem?_set_ne (fun e => hjk e.symm)] using this, fun j hj => by
      have := h.behind j (by omega)
      simpa only [List.getD, List.getElem?_set_ne (show k ≠ j by omega)] using this⟩
def backB (ys : List Int) : List UInt8 := ys.map fun y => UInt8.ofNat y.toNat
theorem low_back {y : Int} (h : 0 ≤ y ∧ y < 256) : lowA (UInt8.ofNat y.toNat) = UInt8.ofNat (lowZ y).toNat := by
  rw [← lowZ_A]
  congr 3
  rw [UInt8.toNat_ofNat']
  omega
theorem Turned.small {s : ByteArray} {ys : List Int} (h : Turned (zs s) (zs s).length ys) : smallL (backB ys) = smallL s.data.toList ∧ ∀ c ∈ backB ys, 65 ≤ c.toNat := by
  have hl : ys.length = s.data.toList.length := by rw [h.len]; simp [zs]
  refine ⟨?_, fun c hc => ?_⟩
  · apply List.ext_getElem?
    intro j
    by_cases hj : j < s.data.toList.length
    · have hz : j < (zs s).length := by simpa [zs] using hj
      have hb := h.before j hz hz
      have e1 : ys[j]? = some (ys.getD j 0) := by rw [List.getD_eq_getElem?_getD, List.getElem?_eq_getElem (by omega)]; rfl
      have e2 : (zs s).getD j 0 = ((s.data.toList[j]'hj).toNat : Int) := by simp [zs, List.getD, List.getElem?_eq_getElem hj]
      simp only [smallL, backB, List.getElem?_map, e1, Option.map_some, List.getElem?_eq_getElem hj]
      rw [e2] at hb
      rw [low_back ⟨by have := hb.2; omega, by have := hb.2; omega⟩, hb.1, lowZ_A]
    · rw [List.getElem?_eq_none (by simp [smallL, backB]; omega), List.getElem?_eq_none (by simp [smallL]; simpa using hj)]
  · obtain ⟨y, hy, rfl⟩ := List.mem_map.1 hc
    obtain ⟨j, hj⟩ := List.getElem?_of_mem hy
    have hjl : j < ys.length := (List.getElem?_eq_some_iff.1 hj).1
    have hb := h.before j (by rw [← h.len]; exact hjl) (by rw [← h.len]; exact hjl)
    rw [List.getD_eq_getElem?_getD (l := ys), hj] at hb
    have := hb.2
    simp only [Option.getD_some] at this
    rw [UInt8.toNat_ofNat']
    omega

set_option maxRecDepth 100000 in
set_option maxHeartbeats 1000000 in
theorem turned_any (s : ByteArray) (b : Nat) (w : World) (hs : s.size ≤ 1048576) (hb16 : b < 65536) (hL : ∀ j, j < s.size → isLet ((zs s).getD j 0)) :
    Calls Tryz.prog 17 #[.string s, .int .u16 (b : Int)] w fun e w' => (∃ l : List UInt8, e = .returned (.string ⟨l.toArray⟩) ∧ l.length = s.size ∧ smallL l = smallL s.data.toList ∧ ∀ c ∈ l, 65 ≤ c.toNat) ∧ Below w.heap.size w w' := by
  have hcv := run_bytes_of_string (P := Tryz.prog) w 9 77 5 s Tryz.underlying9 Tryz.underlying77 Tryz.underlying5
  have HL := Lib.hid hL
  clear hL
  go_enter Tryz.func17, Tryz.ntmps17
  go_wp2_with fail
  clear hcv
  have hst := Lib.hid (row8_start w s (grownCap w s.size 0 5) 5)
  have hbl : Below w.heap.size w (w.alloc (.cells (bytesRow s (grownCap w s.size 0 5)) 5 ((bytesRow s (grownCap w s.size 0 5)).size, (bytesRow s (grownCap w s.size 0 5)).size + 1))).drew := ((Below.refl _ w).alloc (Nat.le_refl _) _).drew
  have HB := Lib.hid hbl
  clear hbl
  have HZ := Lib.hid (zs_len s)
  have HBD := Lib.hid (zs_bd s)
  generalize (w.alloc (.cells (bytesRow s (grownCap w s.size 0 5)) 5 ((bytesRow s (grownCap w s.size 0 5)).size, (bytesRow s (grownCap w s.size 0 5)).size + 1))).drew = W0 at *
  generalize grownCap w s.size 0 5 = cap at *
  go_loopw [6] (fun i wr => ∃ (k : Nat) (ys : List Int), k ≤ s.size ∧ i = .int .i64 k ∧ Hid (Row8 wr w.heap.size ys ∧ Turned (zs s) k ys ∧ Below w.heap.size w wr)) (fun i _ => s.size - (intOf i).toNat)
  case atStart => exact ⟨0, zs s, Nat.zero_le _, rfl, Lib.hid ⟨hst.out, Turned.start _, HB.out⟩⟩
  case round =>
    obtain ⟨k, ys, hk, rfl, HR⟩ := hrel
    by_cases hlt : k < s.size
    · have hkl : k < (zs s).length := by rw [HZ.out]; exact hlt
      obtain ⟨hc, hf⟩ := HR.out.1 k (by rw [HR.out.2.1.len]; exact hkl)
      rw [HR.out.2.1.behind k (Nat.le_refl _)] at hc
      have hlet := Lib.hid (HL.out k hlt)
      have hbd := HBD.out ((zs s).getD k 0) (by simp [List.getD, List.getElem?_eq_getElem hkl])
      have HX := Lib.hid (show (zs s).getD k 0 = (zs s).getD k 0 from rfl)
      obtain ⟨c, hcc⟩ : ∃ c, (zs s).getD k 0 = c := ⟨_, rfl⟩
      have HCC := Lib.hid hcc
      rw [hcc] at hc hbd hlet
      clear hcc HX
      go_wp2_with fail
      all_goals
        go_roundw
        case rel => first
          | exact ⟨k + 1, _, by omega, by go_num, Lib.hid ⟨Row8.set HR.out.1 k (by rw [HR.out.2.1.len]; exact hkl) _, HR.out.2.1.flip hkl (by rw [HCC.out]; exact turn1_flip hlet.out), HR.out.2.2.setCell (Nat.le_refl _) _⟩⟩
          | exact ⟨k + 1, ys, by omega, by go_num, Lib.hid ⟨HR.out.1, HR.out.2.1.keep (by rw [HCC.out]; exact hlet.out), HR.out.2.2⟩⟩
        case measure => simp [intOf]; omega
    · obtain rfl : k = s.size := by omega
      have hl : ys.length = s.size := by rw [HR.out.2.1.len, HZ.out]
      have hin : Lib.BytesIn wr (some ⟨w.heap.size, 0, none⟩) s.size ys := Lib.BytesIn.of_cells fun i hi => by
        have := (HR.out.1 i (by omega)).1
        rw [← this]
        congr 1
        by_cases h0 : i = 0 <;> simp [Addr.add, h0]
      have hcv := Lib.BytesIn.convert (P := Tryz.prog) hin hl cap 77 5 9 Tryz.underlying77 Tryz.underlying5 Tryz.underlying9
      have HL2 := Lib.hid hl
      clear hin hl
      go_wp2_with fail
      go_ret
      have hsm := Turned.small (s := s) (by rw [HZ.out]; exact HR.out.2.1)
      exact ⟨⟨backB ys, rfl, by simp [backB, HL2.out], hsm⟩, HR.out.2.2⟩
end Go.Proofs.YtgfnnmdngckmmaaGreatDoor
