/-
  word.small: what the call returns.
-/
import Derived.Test.YtbdmieelokmhiaaGreatDoorDayTabs
import Derived.Laws.IdiomStrings
namespace Go.Proofs.YtbdmieelokmhiaaGreatDoor
open Go.RowKit

def lowA (c : UInt8) : UInt8 := if 65 ≤ c ∧ c ≤ 90 then c + 32 else c
def smallL (l : List UInt8) : List UInt8 := l.map lowA
def lowZ (c : Int) : Int := if 65 ≤ c ∧ c ≤ 90 then c + 32 else c
theorem lowZ_bd {c : Int} (h : 0 ≤ c ∧ c < 256) : 0 ≤ lowZ c ∧ lowZ c < 256 := by unfold lowZ; split <;> omega
theorem lowZ_A (c : UInt8) : UInt8.ofNat (lowZ c.toNat).toNat = lowA c := by
  unfold lowZ lowA
  have h1 : (65 ≤ (c.toNat : Int) ∧ (c.toNat : Int) ≤ 90) ↔ (65 ≤ c ∧ c ≤ 90) := by
    simp [UInt8.le_iff_toNat_le]; omega
  by_cases h : 65 ≤ c ∧ c ≤ 90
  · rw [if_pos (h1.2 h), if_pos h]
    have h2 := h1.2 h
    apply UInt8.toNat_inj.1
    rw [UInt8.toNat_ofNat', UInt8.toNat_add]
    have : (32 : UInt8).toNat = 32 := rfl
    omega
  · rw [if_neg (fun h' => h (h1.1 h')), if_neg h]
    simp
/-- the bytes of a string, as numbers -/
def zs (s : ByteArray) : List Int := s.data.toList.map fun c => (c.toNat : Int)
theorem zs_len (s : ByteArray) : (zs s).length = s.size := by simp [zs]
theorem zs_bd (s : ByteArray) : ∀ c ∈ zs s, 0 ≤ c ∧ c < 256 := by
  intro c hc
  obtain ⟨b, _, rfl⟩ := List.mem_map.1 hc
  have := b.toNat_lt
  omega
theorem str_zs (s : ByteArray) : strOfNums ((zs s).map lowZ) = ⟨(smallL s.data.toList).toArray⟩ := by
  unfold strOfNums zs smallL
  congr 2
  rw [List.map_map, List.map_map]
  apply List.map_congr_left
  intro c _
  exact lowZ_A c

/-- row g holds the numbers xs, none of them frozen -/
def Row8 (w : World) (g : Nat) (xs : List Int) : Prop := ∀ i, i < xs.length → w.cell? ⟨g, i, none⟩ = some (.int .u8 (xs.getD i 0)) ∧ w.frozen? ⟨g, i, none⟩ = false
theorem Row8.set {w : World} {g : Nat} {xs : List Int} (h : Row8 w g xs) (k : Nat) (hk : k < xs.length) (y : Int) : Row8 (w.setCell ⟨g, k, none⟩ (.int .u8 y)) g (xs.set k y) := by
  intro i hi
  rw [List.length_set] at hi
  obtain ⟨h1, h2⟩ := h i hi
  rw [World.frozen?_setCell]
  refine ⟨?_, h2⟩
  by_cases hik : k = i
  · subst hik
    rw [World.cell?_setCell_same' _ _ _ (by rw [h1]; rfl)]
    simp [List.getD, List.getElem?_set_self hk]
  · rw [World.cell?_setCell_other _ _ _ _ (by simp), h1]
    simp [List.getD, List.getElem?_set_ne hik]

theorem row8_start (w : World) (s : ByteArray) (c : Nat) (e : TypeId) : Row8 (w.alloc (.cells (bytesRow s c) e ((bytesRow s c).size, (bytesRow s c).size + 1))).drew w.heap.size (zs s) := by
  intro i hi
  rw [zs_len] at hi
  have hh : (w.alloc (.cells (bytesRow s c) e ((bytesRow s c).size, (bytesRow s c).size + 1))).heap[w.heap.size]? = some (.cells (bytesRow s c) e ((bytesRow s c).size, (bytesRow s c).size + 1)) := heap_alloc_new w _
  have hsz : i < (bytesRow s c).size := by simp [bytesRow]; have : s.data.size = s.size := rfl; omega
  refine ⟨?_, ?_⟩
  · show (w.alloc (.cells (bytesRow s c) e ((bytesRow s c).size, (bytesRow s c).size + 1))).cell? ⟨w.heap.size, i, none⟩ = _
    rw [cell_of_row _ _ i _ _ _ hh, bytesRow_at s c i hi]
    simp [zs, List.getD, List.getElem?_eq_getElem (show i < s.data.toList.length by simpa using hi)]
  · show (w.alloc (.cells (bytesRow s c) e ((bytesRow s c).size, (bytesRow s c).size + 1))).frozen? ⟨w.heap.size, i, none⟩ = false
    simp only [World.frozen?, hh]
    simp
    omega
def lowTo (xs : List Int) (k : Nat) : List Int := (xs.take k).map lowZ ++ xs.drop k
theorem lowTo_len (xs : List Int) (k : Nat) (h : k ≤ xs.length) : (lowTo xs k).length = xs.length := by simp [lowTo]; omega
theorem lowTo_at (xs : List Int) (k : Nat) (h : k < xs.length) : (lowTo xs k).getD k 0 = xs.getD k 0 := by
  simp [lowTo, List.getD, List.getElem?_append, Nat.min_eq_left (Nat.le_of_lt h)]
theorem lowTo_split (xs : List Int) (k : Nat) (h : k < xs.length) : lowTo xs k = (xs.take k).map lowZ ++ xs.getD k 0 :: xs.drop (k + 1) := by
  rw [lowTo, List.drop_eq_getElem_cons h]; simp [List.getD, List.getElem?_eq_getElem h]
theorem lowTo_succ (xs : List Int) (k : Nat) (h : k < xs.length) : lowTo xs (k + 1) = (xs.take k).map lowZ ++ lowZ (xs.getD k 0) :: xs.drop (k + 1) := by
  rw [lowTo, List.take_succ_eq_append_getElem h, List.map_append, List.append_assoc]; simp only [List.getD, List.getElem?_eq_getElem h, List.map_cons, List.map_nil, List.cons_append, List.nil_append, Option.getD_some]
theorem lowTo_step (xs : List Int) (k : Nat) (h : k < xs.length) : (lowTo xs k).set k (lowZ (xs.getD k 0)) = lowTo xs (k + 1) := by
  have hk : ((xs.take k).map lowZ).length = k := by simp; omega
  rw [lowTo_split xs k h, lowTo_succ xs k h, List.set_append_right _ _ (by omega), hk, Nat.sub_self, List.set_cons_zero]
theorem lowTo_same (xs : List Int) (k : Nat) (h : k < xs.length) (hl : lowZ (xs.getD k 0) = xs.getD k 0) : lowTo xs k = lowTo xs (k + 1) := by
  rw [lowTo_split xs k h, lowTo_succ xs k h, hl]
theorem lowTo_full (xs : List Int) : lowTo xs xs.length = xs.map lowZ := by simp [lowTo]

set_option maxHeartbeats 1000000 in
theorem small_any (s : ByteArray) (w : World) (hs : s.size ≤ 1048576) :
    Calls Tryz.prog 165 #[.string s] w fun e w' => e = .returned (.string ⟨(smallL s.data.toList).toArray⟩) ∧ Below w.heap.size w w' := by
  have hcv := run_bytes_of_string (P := Tryz.prog) w 9 80 5 s Tryz.underlying9 Tryz.underlying80 Tryz.underlying5
  go_enter Tryz.func165, Tryz.ntmps165
  go_wp2_with fail
  clear hcv
  have hst := Lib.hid (row8_start w s (grownCap w s.size 0 5) 5)
  have hbl : Below w.heap.size w (w.alloc (.cells (bytesRow s (grownCap w s.size 0 5)) 5 ((bytesRow s (grownCap w s.size 0 5)).size, (bytesRow s (grownCap w s.size 0 5)).size + 1))).drew := ((Below.refl _ w).alloc (Nat.le_refl _) _).drew
  have HB := Lib.hid hbl
  clear hbl
  have hz := zs_len s
  have HZ := Lib.hid hz
  have HBD := Lib.hid (zs_bd s)
  clear hz
  generalize (w.alloc (.cells (bytesRow s (grownCap w s.size 0 5)) 5 ((bytesRow s (grownCap w s.size 0 5)).size, (bytesRow s (grownCap w s.size 0 5)).size + 1))).drew = W0 at *
  generalize grownCap w s.size 0 5 = cap at *
  go_loopw [10] (fun i wr => ∃ k : Nat, k ≤ s.size ∧ i = .int .i64 k ∧ Row8 wr w.heap.size (lowTo (zs s) k) ∧ Below w.heap.size w wr) (fun i _ => s.size - (intOf i).toNat)
  case atStart => exact ⟨0, Nat.zero_le _, rfl, by simpa [lowTo] using hst.out, HB.out⟩
  case round =>
    obtain ⟨k, hk, rfl, hR, hb⟩ := hrel
    by_cases hlt : k < s.size
    · have hkl : k < (zs s).length := by rw [HZ.out]; exact hlt
      have hrow := hR k (by rw [lowTo_len _ _ (by omega)]; exact hkl)
      rw [lowTo_at _ _ hkl] at hrow
      obtain ⟨hc, hf⟩ := hrow
      have hbd := HBD.out ((zs s).getD k 0) (by simp [List.getD, List.getElem?_eq_getElem hkl])
      have HRow := Lib.hid hR
      have HS := Lib.hid (lowTo_step (zs s) k hkl)
      have HSame := Lib.hid (lowTo_same (zs s) k hkl)
      clear hR
      generalize (zs s).getD k 0 = c at *
      have hd : decide ((k : Int) < (s.size : Int)) = true := by simp; omega
      by_cases h65 : 65 ≤ c
      · by_cases h90 : c ≤ 90
        · go_wp2_with fail
          refine ⟨⟨k + 1, by omega, by go_num, ?_, hb.setCell (Nat.le_refl _) _⟩, by simp [intOf]; omega⟩
          rw [← HS.out, show c - 65 + 97 = lowZ c by rw [lowZ, if_pos ⟨h65, h90⟩]; omega]
          exact Row8.set HRow.out k (by rw [lowTo_len _ _ (by omega)]; exact hkl) _
        · go_wp2_with fail
          go_roundw
          case rel => exact ⟨k + 1, by omega, by go_num, by rw [← HSame.out (by rw [lowZ, if_neg (by omega)])]; exact HRow.out, hb⟩
          case measure => simp [intOf]; omega
      · go_wp2_with fail
        go_roundw
        case rel => exact ⟨k + 1, by omega, by go_num, by rw [← HSame.out (by rw [lowZ, if_neg (by omega)])]; exact HRow.out, hb⟩
        case measure => simp [intOf]; omega
    · obtain rfl : k = s.size := by omega
      have hd : decide ((s.size : Int) < (s.size : Int)) = false := by simp
      have hin : Lib.BytesIn wr (some ⟨w.heap.size, 0, none⟩) s.size ((zs s).map lowZ) := Lib.BytesIn.of_cells fun i hi => by
        have := (hR i (by rw [lowTo_len _ _ (by rw [HZ.out]; exact Nat.le_refl _), HZ.out]; exact hi)).1
        rw [← HZ.out, lowTo_full] at this
        rw [← this]
        congr 1
        by_cases h0 : i = 0 <;> simp [Addr.add, h0]
      have hcv := Lib.BytesIn.convert (P := Tryz.prog) hin (by rw [List.length_map]; exact HZ.out) cap 80 5 9 Tryz.underlying80 Tryz.underlying5 Tryz.underlying9
      rw [str_zs] at hcv
      clear hR hin
      go_wp2_with fail
      go_ret
      exact ⟨rfl, hb⟩
end Go.Proofs.YtbdmieelokmhiaaGreatDoor
