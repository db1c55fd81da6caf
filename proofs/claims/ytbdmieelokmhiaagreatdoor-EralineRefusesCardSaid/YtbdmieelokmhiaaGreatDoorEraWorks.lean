/-
  works of the law of layer 11: the examples of the chapter hold.
-/
import Derived.Test.YtbdmieelokmhiaaGreatDoorEraParse
set_option linter.unusedVariables false
namespace Go.Proofs.YtbdmieelokmhiaaGreatDoor
open Go.RowKit

set_option maxRecDepth 100000 in
set_option maxHeartbeats 400000 in
theorem until_any (y m d s b : Int) (w : World) : Calls Tryz.prog 18 #[.int .i64 y, .int .i64 m, .int .i64 d, .agg #[.int .i64 s, .int .i64 b]] w fun e w' => e = .returned (.agg #[.bool true, .int .i64 y, .int .i64 m, .int .i64 1, .int .i64 0, .int .i64 d, .int .i64 s, .int .i64 b]) ∧ Below w.heap.size w w' := by
  go_enter Tryz.func18, Tryz.ntmps18
  go_wp2_with fail
  refine bodyPost_ret (by simp [results, Tryz.results18, go_sem]) rfl ⟨rfl, by go_grown⟩

def exRow : Array Value := #[.string ⟨#[48, 58, 48, 48, 32, 45, 32, 71, 77, 84, 32, 49, 57, 54, 56, 32, 79, 99, 116, 32, 50, 55]⟩, .int .i64 0, .int .i64 0, .int .i64 0, .string ⟨#[]⟩, .string ⟨#[71, 77, 84]⟩, .bool true, .int .i64 1968, .int .i64 10, .int .i64 1, .int .i64 0, .int .i64 27, .int .i64 0, .int .i64 0, .string ⟨#[48, 58, 48, 48, 32, 45, 32, 71, 77, 84, 32, 49, 57, 54, 56, 32, 79, 99, 116, 32, 50, 55]⟩, .string ⟨#[49, 58, 48, 48, 32, 69, 105, 114, 101, 32, 73, 83, 84, 47, 71, 77, 84]⟩, .int .i64 3600, .int .i64 2, .int .i64 0, .string ⟨#[69, 105, 114, 101]⟩, .string ⟨#[73, 83, 84, 47, 71, 77, 84]⟩, .bool false, .int .i64 0, .int .i64 0, .int .i64 0, .int .i64 0, .int .i64 0, .int .i64 0, .int .i64 0, .string ⟨#[49, 58, 48, 48, 32, 69, 105, 114, 101, 32, 73, 83, 84, 47, 71, 77, 84]⟩, .string ⟨#[45, 51, 58, 51, 48, 58, 53, 50, 32, 49, 58, 48, 48, 32, 78, 68, 84, 32, 49, 57, 51, 53, 32, 77, 97, 114, 32, 51, 48, 32, 48, 58, 48, 48, 115]⟩, .int .i64 (-12652), .int .i64 1, .int .i64 3600, .string ⟨#[]⟩, .string ⟨#[78, 68, 84]⟩, .bool true, .int .i64 1935, .int .i64 3, .int .i64 1, .int .i64 0, .int .i64 30, .int .i64 0, .int .i64 1, .string ⟨#[45, 51, 58, 51, 48, 58, 53, 50, 32, 49, 58, 48, 48, 32, 78, 68, 84, 32, 49, 57, 51, 53, 32, 77, 97, 114, 32, 51, 48, 32, 48, 58, 48, 48, 115]⟩, .string ⟨#[48, 32, 45, 32, 88, 32, 49, 57, 48, 48, 32, 106, 97, 110, 117, 97, 114, 121, 32, 49, 32, 48]⟩, .int .i64 0, .int .i64 0, .int .i64 0, .string ⟨#[]⟩, .string ⟨#[88]⟩, .bool true, .int .i64 1900, .int .i64 1, .int .i64 1, .int .i64 0, .int .i64 1, .int .i64 0, .int .i64 0, .string ⟨#[48, 58, 48, 48, 32, 45, 32, 88, 32, 49, 57, 48, 48]⟩, .string ⟨#[48, 32, 45, 32, 88, 32, 49, 57, 48, 48, 32, 74, 97, 110, 32, 49, 32, 48, 58, 48, 48, 117]⟩, .int .i64 0, .int .i64 0, .int .i64 0, .string ⟨#[]⟩, .string ⟨#[88]⟩, .bool true, .int .i64 1900, .int .i64 1, .int .i64 1, .int .i64 0, .int .i64 1, .int .i64 0, .int .i64 2, .string ⟨#[48, 58, 48, 48, 32, 45, 32, 88, 32, 49, 57, 48, 48, 32, 74, 97, 110, 32, 49, 32, 48, 58, 48, 48, 117]⟩, .string ⟨#[48, 32, 45, 32, 88, 32, 49, 57, 48, 48, 32, 74, 97, 110, 32, 50]⟩, .int .i64 0, .int .i64 0, .int .i64 0, .string ⟨#[]⟩, .string ⟨#[88]⟩, .bool true, .int .i64 1900, .int .i64 1, .int .i64 1, .int .i64 0, .int .i64 2, .int .i64 0, .int .i64 0, .string ⟨#[48, 58, 48, 48, 32, 45, 32, 88, 32, 49, 57, 48, 48, 32, 74, 97, 110, 32, 50]⟩, .string ⟨#[48, 32, 50, 53, 32, 88]⟩, .int .i64 0, .int .i64 1, .int .i64 90000, .string ⟨#[]⟩, .string ⟨#[88]⟩, .bool false, .int .i64 0, .int .i64 0, .int .i64 0, .int .i64 0, .int .i64 0, .int .i64 0, .int .i64 0, .string ⟨#[48, 58, 48, 48, 32, 50, 53, 58, 48, 48, 32, 88]⟩]
structure ExAt (wr : World) (g k : Nat) (s : ByteArray) (off kd sv : Int) (sn sf : ByteArray) (is : Bool) (y m d1 d2 d3 h1 h2 : Int) (ln : ByteArray) : Prop where
  c0 : wr.cell? ⟨g, k * 15, none⟩ = some (.string s)
  c1 : wr.cell? ⟨g, k * 15 + 1, none⟩ = some (.int .i64 off)
  c2 : wr.cell? ⟨g, k * 15 + 2, none⟩ = some (.int .i64 kd)
  c3 : wr.cell? ⟨g, k * 15 + 3, none⟩ = some (.int .i64 sv)
  c4 : wr.cell? ⟨g, k * 15 + 4, none⟩ = some (.string sn)
  c5 : wr.cell? ⟨g, k * 15 + 5, none⟩ = some (.string sf)
  c6 : wr.cell? ⟨g, k * 15 + 6, none⟩ = some (.bool is)
  c7 : wr.cell? ⟨g, k * 15 + 7, none⟩ = some (.int .i64 y)
  c8 : wr.cell? ⟨g, k * 15 + 8, none⟩ = some (.int .i64 m)
  c9 : wr.cell? ⟨g, k * 15 + 9, none⟩ = some (.int .i64 d1)
  c10 : wr.cell? ⟨g, k * 15 + 10, none⟩ = some (.int .i64 d2)
  c11 : wr.cell? ⟨g, k * 15 + 11, none⟩ = some (.int .i64 d3)
  c12 : wr.cell? ⟨g, k * 15 + 12, none⟩ = some (.int .i64 h1)
  c13 : wr.cell? ⟨g, k * 15 + 13, none⟩ = some (.int .i64 h2)
  c14 : wr.cell? ⟨g, k * 15 + 14, none⟩ = some (.string ln)
  size : s.size ≤ 1000
  count : Lib.count s.data.toList [32] ≤ 1000
  parse : eraR (splitW s.data.toList) = (⟨off, kd, sv, sn.data.toList, sf.data.toList, ⟨is, y, m, (d1, d2, d3), (h1, h2)⟩⟩, 0)
  sizes : sn.size ≤ 1000 ∧ sf.size ≤ 1000
  print : eraPrintR ⟨off, kd, sv, sn.data.toList, sf.data.toList, ⟨is, y, m, (d1, d2, d3), (h1, h2)⟩⟩ = (ln.data.toList, 0)
theorem ex_at (wr : World) (g k : Nat) (hk : k < 7) (hB : Blk wr g 53 exRow) : ∃ s off kd sv sn sf is y m d1 d2 d3 h1 h2 ln, ExAt wr g k s off kd sv sn sf is y m d1 d2 d3 h1 h2 ln := by
  rcases (by omega : k = 0 ∨ k = 1 ∨ k = 2 ∨ k = 3 ∨ k = 4 ∨ k = 5 ∨ k = 6) with rfl | rfl | rfl | rfl | rfl | rfl | rfl
  · exact ⟨⟨#[48, 58, 48, 48, 32, 45, 32, 71, 77, 84, 32, 49, 57, 54, 56, 32, 79, 99, 116, 32, 50, 55]⟩, 0, 0, 0, ⟨#[]⟩, ⟨#[71, 77, 84]⟩, true, 1968, 10, 1, 0, 27, 0, 0, ⟨#[48, 58, 48, 48, 32, 45, 32, 71, 77, 84, 32, 49, 57, 54, 56, 32, 79, 99, 116, 32, 50, 55]⟩, ⟨hB.cell_ rfl, hB.cell_ rfl, hB.cell_ rfl, hB.cell_ rfl, hB.cell_ rfl, hB.cell_ rfl, hB.cell_ rfl, hB.cell_ rfl, hB.cell_ rfl, hB.cell_ rfl, hB.cell_ rfl, hB.cell_ rfl, hB.cell_ rfl, hB.cell_ rfl, hB.cell_ rfl, by decide, by decide +kernel, by kernel_rfl, by decide, by kernel_rfl⟩⟩
  · exact ⟨⟨#[49, 58, 48, 48, 32, 69, 105, 114, 101, 32, 73, 83, 84, 47, 71, 77, 84]⟩, 3600, 2, 0, ⟨#[69, 105, 114, 101]⟩, ⟨#[73, 83, 84, 47, 71, 77, 84]⟩, false, 0, 0, 0, 0, 0, 0, 0, ⟨#[49, 58, 48, 48, 32, 69, 105, 114, 101, 32, 73, 83, 84, 47, 71, 77, 84]⟩, ⟨hB.cell_ rfl, hB.cell_ rfl, hB.cell_ rfl, hB.cell_ rfl, hB.cell_ rfl, hB.cell_ rfl, hB.cell_ rfl, hB.cell_ rfl, hB.cell_ rfl, hB.cell_ rfl, hB.cell_ rfl, hB.cell_ rfl, hB.cell_ rfl, hB.cell_ rfl, hB.cell_ rfl, by decide, by decide +kernel, by kernel_rfl, by decide, by kernel_rfl⟩⟩
  · exact ⟨⟨#[45, 51, 58, 51, 48, 58, 53, 50, 32, 49, 58, 48, 48, 32, 78, 68, 84, 32, 49, 57, 51, 53, 32, 77, 97, 114, 32, 51, 48, 32, 48, 58, 48, 48, 115]⟩, -12652, 1, 3600, ⟨#[]⟩, ⟨#[78, 68, 84]⟩, true, 1935, 3, 1, 0, 30, 0, 1, ⟨#[45, 51, 58, 51, 48, 58, 53, 50, 32, 49, 58, 48, 48, 32, 78, 68, 84, 32, 49, 57, 51, 53, 32, 77, 97, 114, 32, 51, 48, 32, 48, 58, 48, 48, 115]⟩, ⟨hB.cell_ rfl, hB.cell_ rfl, hB.cell_ rfl, hB.cell_ rfl, hB.cell_ rfl, hB.cell_ rfl, hB.cell_ rfl, hB.cell_ rfl, hB.cell_ rfl, hB.cell_ rfl, hB.cell_ rfl, hB.cell_ rfl, hB.cell_ rfl, hB.cell_ rfl, hB.cell_ rfl, by decide, by decide +kernel, by kernel_rfl, by decide, by kernel_rfl⟩⟩
  · exact ⟨⟨#[48, 32, 45, 32, 88, 32, 49, 57, 48, 48, 32, 106, 97, 110, 117, 97, 114, 121, 32, 49, 32, 48]⟩, 0, 0, 0, ⟨#[]⟩, ⟨#[88]⟩, true, 1900, 1, 1, 0, 1, 0, 0, ⟨#[48, 58, 48, 48, 32, 45, 32, 88, 32, 49, 57, 48, 48]⟩, ⟨hB.cell_ rfl, hB.cell_ rfl, hB.cell_ rfl, hB.cell_ rfl, hB.cell_ rfl, hB.cell_ rfl, hB.cell_ rfl, hB.cell_ rfl, hB.cell_ rfl, hB.cell_ rfl, hB.cell_ rfl, hB.cell_ rfl, hB.cell_ rfl, hB.cell_ rfl, hB.cell_ rfl, by decide, by decide +kernel, by kernel_rfl, by decide, by kernel_rfl⟩⟩
  · exact ⟨⟨#[48, 32, 45, 32, 88, 32, 49, 57, 48, 48, 32, 74, 97, 110, 32, 49, 32, 48, 58, 48, 48, 117]⟩, 0, 0, 0, ⟨#[]⟩, ⟨#[88]⟩, true, 1900, 1, 1, 0, 1, 0, 2, ⟨#[48, 58, 48, 48, 32, 45, 32, 88, 32, 49, 57, 48, 48, 32, 74, 97, 110, 32, 49, 32, 48, 58, 48, 48, 117]⟩, ⟨hB.cell_ rfl, hB.cell_ rfl, hB.cell_ rfl, hB.cell_ rfl, hB.cell_ rfl, hB.cell_ rfl, hB.cell_ rfl, hB.cell_ rfl, hB.cell_ rfl, hB.cell_ rfl, hB.cell_ rfl, hB.cell_ rfl, hB.cell_ rfl, hB.cell_ rfl, hB.cell_ rfl, by decide, by decide +kernel, by kernel_rfl, by decide, by kernel_rfl⟩⟩
  · exact ⟨⟨#[48, 32, 45, 32, 88, 32, 49, 57, 48, 48, 32, 74, 97, 110, 32, 50]⟩, 0, 0, 0, ⟨#[]⟩, ⟨#[88]⟩, true, 1900, 1, 1, 0, 2, 0, 0, ⟨#[48, 58, 48, 48, 32, 45, 32, 88, 32, 49, 57, 48, 48, 32, 74, 97, 110, 32, 50]⟩, ⟨hB.cell_ rfl, hB.cell_ rfl, hB.cell_ rfl, hB.cell_ rfl, hB.cell_ rfl, hB.cell_ rfl, hB.cell_ rfl, hB.cell_ rfl, hB.cell_ rfl, hB.cell_ rfl, hB.cell_ rfl, hB.cell_ rfl, hB.cell_ rfl, hB.cell_ rfl, hB.cell_ rfl, by decide, by decide +kernel, by kernel_rfl, by decide, by kernel_rfl⟩⟩
  · exact ⟨⟨#[48, 32, 50, 53, 32, 88]⟩, 0, 1, 90000, ⟨#[]⟩, ⟨#[88]⟩, false, 0, 0, 0, 0, 0, 0, 0, ⟨#[48, 58, 48, 48, 32, 50, 53, 58, 48, 48, 32, 88]⟩, ⟨hB.cell_ rfl, hB.cell_ rfl, hB.cell_ rfl, hB.cell_ rfl, hB.cell_ rfl, hB.cell_ rfl, hB.cell_ rfl, hB.cell_ rfl, hB.cell_ rfl, hB.cell_ rfl, hB.cell_ rfl, hB.cell_ rfl, hB.cell_ rfl, hB.cell_ rfl, hB.cell_ rfl, by decide, by decide +kernel, by kernel_rfl, by decide, by kernel_rfl⟩⟩

structure ExBad (wr : World) (g k h n : Nat) (x : Int) (ls : List (List UInt8)) : Prop where
  c0 : wr.cell? ⟨g, k * 2, none⟩ = some (.slice (some ⟨h, 0, none⟩) n n)
  c1 : wr.cell? ⟨g, k * 2 + 1, none⟩ = some (.int .i64 x)
  row : Blk wr h 9 (strV ls).toArray
  len : ls.length = n
  parse : eraR ls = (EraP.none, x)
  small : n ≤ 1000 ∧ ∀ l ∈ ls, l.length ≤ 1000
def badRow (h : Nat) : Array Value := #[.slice (some ⟨h, 0, none⟩) 2 2, .int .i64 5, .slice (some ⟨h + 1, 0, none⟩) 3 3, .int .i64 5, .slice (some ⟨h + 2, 0, none⟩) 3 3, .int .i64 9, .slice (some ⟨h + 3, 0, none⟩) 4 4, .int .i64 5, .slice (some ⟨h + 4, 0, none⟩) 4 4, .int .i64 3, .slice (some ⟨h + 5, 0, none⟩) 5 5, .int .i64 8, .slice (some ⟨h + 6, 0, none⟩) 3 3, .int .i64 15]
def badL0 : List (List UInt8) := [[48], [45]]
def badL1 : List (List UInt8) := [[120], [45], [88]]
def badL2 : List (List UInt8) := [[48], [97, 33], [88]]
def badL3 : List (List UInt8) := [[48], [45], [88], [48, 49, 57, 48, 48]]
def badL4 : List (List UInt8) := [[48], [45], [88], [49, 56, 52, 57]]
def badL5 : List (List UInt8) := [[48], [45], [88], [49, 57, 48, 48], [77, 97]]
def badL6 : List (List UInt8) := [[48], [45], [88, 32, 89]]
theorem bad_at (wr : World) (g h k : Nat) (hk : k < 7) (hB : Blk wr g 55 (badRow h)) (b0 : Blk wr (h + 0) 9 (strV badL0).toArray) (b1 : Blk wr (h + 1) 9 (strV badL1).toArray) (b2 : Blk wr (h + 2) 9 (strV badL2).toArray) (b3 : Blk wr (h + 3) 9 (strV badL3).toArray) (b4 : Blk wr (h + 4) 9 (strV badL4).toArray) (b5 : Blk wr (h + 5) 9 (strV badL5).toArray) (b6 : Blk wr (h + 6) 9 (strV badL6).toArray) : ∃ hh n x ls, ExBad wr g k hh n x ls := by
  rcases (by omega : k = 0 ∨ k = 1 ∨ k = 2 ∨ k = 3 ∨ k = 4 ∨ k = 5 ∨ k = 6) with rfl | rfl | rfl | rfl | rfl | rfl | rfl
  · exact ⟨h, 2, 5, badL0, ⟨hB.cell_ rfl, hB.cell_ rfl, b0, rfl, by kernel_rfl, by decide, by decide⟩⟩
  · exact ⟨h + 1, 3, 5, badL1, ⟨hB.cell_ rfl, hB.cell_ rfl, b1, rfl, by kernel_rfl, by decide, by decide⟩⟩
  · exact ⟨h + 2, 3, 9, badL2, ⟨hB.cell_ rfl, hB.cell_ rfl, b2, rfl, by kernel_rfl, by decide, by decide⟩⟩
  · exact ⟨h + 3, 4, 5, badL3, ⟨hB.cell_ rfl, hB.cell_ rfl, b3, rfl, by kernel_rfl, by decide, by decide⟩⟩
  · exact ⟨h + 4, 4, 3, badL4, ⟨hB.cell_ rfl, hB.cell_ rfl, b4, rfl, by kernel_rfl, by decide, by decide⟩⟩
  · exact ⟨h + 5, 5, 8, badL5, ⟨hB.cell_ rfl, hB.cell_ rfl, b5, rfl, by kernel_rfl, by decide, by decide⟩⟩
  · exact ⟨h + 6, 3, 15, badL6, ⟨hB.cell_ rfl, hB.cell_ rfl, b6, rfl, by kernel_rfl, by decide, by decide⟩⟩

set_option maxRecDepth 100000 in
set_option maxHeartbeats 2000000 in
theorem eworks_any (w : World) (hT : ETabs w) (hM : MaxL w) :
    Calls Tryz.prog 10 #[] w fun e w' => e = .returned (.bool true) ∧ Below w.heap.size w w' := by
  have HT := Lib.hid (fun W (hW : Below w.heap.size w W) => And.intro (hT.below hW) (hM.below hW))
  have hb0 := Below.refl w.heap.size w
  clear hT hM
  go_enter Tryz.func10, Tryz.ntmps10
  go_wp2_with fail
  refine (until_any _ _ _ _ _ _).mono ?_
  rintro e w1 ⟨rfl, hb⟩
  have hb1 := hb0.trans (hb.mono hb0.size)
  clear hb hb0
  go_wp2_with fail
  refine (until_any _ _ _ _ _ _).mono ?_
  rintro e w2 ⟨rfl, hb⟩
  have hb2 := hb1.trans (hb.mono hb1.size)
  clear hb hb1
  go_wp2_with fail
  refine (until_any _ _ _ _ _ _).mono ?_
  rintro e w3 ⟨rfl, hb⟩
  have hb3 := hb2.trans (hb.mono hb2.size)
  clear hb hb2
  go_wp2_with fail
  refine (until_any _ _ _ _ _ _).mono ?_
  rintro e w4 ⟨rfl, hb⟩
  have hb4 := hb3.trans (hb.mono hb3.size)
  clear hb hb3
  go_wp2_with fail
  refine (until_any _ _ _ _ _ _).mono ?_
  rintro e w5 ⟨rfl, hb⟩
  have hb5 := hb4.trans (hb.mono hb4.size)
  clear hb hb4
  go_wp2_with fail
  have HB := Lib.hid (show Blk (w5.alloc (.cells #[.string ⟨#[48, 58, 48, 48, 32, 45, 32, 71, 77, 84, 32, 49, 57, 54, 56, 32, 79, 99, 116, 32, 50, 55]⟩, .int .i64 0, .int .i64 0, .int .i64 0, .string ⟨#[]⟩, .string ⟨#[71, 77, 84]⟩, .bool true, .int .i64 1968, .int .i64 10, .int .i64 1, .int .i64 0, .int .i64 27, .int .i64 0, .int .i64 0, .string ⟨#[48, 58, 48, 48, 32, 45, 32, 71, 77, 84, 32, 49, 57, 54, 56, 32, 79, 99, 116, 32, 50, 55]⟩, .string ⟨#[49, 58, 48, 48, 32, 69, 105, 114, 101, 32, 73, 83, 84, 47, 71, 77, 84]⟩, .int .i64 3600, .int .i64 2, .int .i64 0, .string ⟨#[69, 105, 114, 101]⟩, .string ⟨#[73, 83, 84, 47, 71, 77, 84]⟩, .bool false, .int .i64 0, .int .i64 0, .int .i64 0, .int .i64 0, .int .i64 0, .int .i64 0, .int .i64 0, .string ⟨#[49, 58, 48, 48, 32, 69, 105, 114, 101, 32, 73, 83, 84, 47, 71, 77, 84]⟩, .string ⟨#[45, 51, 58, 51, 48, 58, 53, 50, 32, 49, 58, 48, 48, 32, 78, 68, 84, 32, 49, 57, 51, 53, 32, 77, 97, 114, 32, 51, 48, 32, 48, 58, 48, 48, 115]⟩, .int .i64 (-12652), .int .i64 1, .int .i64 3600, .string ⟨#[]⟩, .string ⟨#[78, 68, 84]⟩, .bool true, .int .i64 1935, .int .i64 3, .int .i64 1, .int .i64 0, .int .i64 30, .int .i64 0, .int .i64 1, .string ⟨#[45, 51, 58, 51, 48, 58, 53, 50, 32, 49, 58, 48, 48, 32, 78, 68, 84, 32, 49, 57, 51, 53, 32, 77, 97, 114, 32, 51, 48, 32, 48, 58, 48, 48, 115]⟩, .string ⟨#[48, 32, 45, 32, 88, 32, 49, 57, 48, 48, 32, 106, 97, 110, 117, 97, 114, 121, 32, 49, 32, 48]⟩, .int .i64 0, .int .i64 0, .int .i64 0, .string ⟨#[]⟩, .string ⟨#[88]⟩, .bool true, .int .i64 1900, .int .i64 1, .int .i64 1, .int .i64 0, .int .i64 1, .int .i64 0, .int .i64 0, .string ⟨#[48, 58, 48, 48, 32, 45, 32, 88, 32, 49, 57, 48, 48]⟩, .string ⟨#[48, 32, 45, 32, 88, 32, 49, 57, 48, 48, 32, 74, 97, 110, 32, 49, 32, 48, 58, 48, 48, 117]⟩, .int .i64 0, .int .i64 0, .int .i64 0, .string ⟨#[]⟩, .string ⟨#[88]⟩, .bool true, .int .i64 1900, .int .i64 1, .int .i64 1, .int .i64 0, .int .i64 1, .int .i64 0, .int .i64 2, .string ⟨#[48, 58, 48, 48, 32, 45, 32, 88, 32, 49, 57, 48, 48, 32, 74, 97, 110, 32, 49, 32, 48, 58, 48, 48, 117]⟩, .string ⟨#[48, 32, 45, 32, 88, 32, 49, 57, 48, 48, 32, 74, 97, 110, 32, 50]⟩, .int .i64 0, .int .i64 0, .int .i64 0, .string ⟨#[]⟩, .string ⟨#[88]⟩, .bool true, .int .i64 1900, .int .i64 1, .int .i64 1, .int .i64 0, .int .i64 2, .int .i64 0, .int .i64 0, .string ⟨#[48, 58, 48, 48, 32, 45, 32, 88, 32, 49, 57, 48, 48, 32, 74, 97, 110, 32, 50]⟩, .string ⟨#[48, 32, 50, 53, 32, 88]⟩, .int .i64 0, .int .i64 1, .int .i64 90000, .string ⟨#[]⟩, .string ⟨#[88]⟩, .bool false, .int .i64 0, .int .i64 0, .int .i64 0, .int .i64 0, .int .i64 0, .int .i64 0, .int .i64 0, .string ⟨#[48, 58, 48, 48, 32, 50, 53, 58, 48, 48, 32, 88]⟩] 53)) w5.heap.size 53 exRow ∧ Below w.heap.size w (w5.alloc (.cells #[.string ⟨#[48, 58, 48, 48, 32, 45, 32, 71, 77, 84, 32, 49, 57, 54, 56, 32, 79, 99, 116, 32, 50, 55]⟩, .int .i64 0, .int .i64 0, .int .i64 0, .string ⟨#[]⟩, .string ⟨#[71, 77, 84]⟩, .bool true, .int .i64 1968, .int .i64 10, .int .i64 1, .int .i64 0, .int .i64 27, .int .i64 0, .int .i64 0, .string ⟨#[48, 58, 48, 48, 32, 45, 32, 71, 77, 84, 32, 49, 57, 54, 56, 32, 79, 99, 116, 32, 50, 55]⟩, .string ⟨#[49, 58, 48, 48, 32, 69, 105, 114, 101, 32, 73, 83, 84, 47, 71, 77, 84]⟩, .int .i64 3600, .int .i64 2, .int .i64 0, .string ⟨#[69, 105, 114, 101]⟩, .string ⟨#[73, 83, 84, 47, 71, 77, 84]⟩, .bool false, .int .i64 0, .int .i64 0, .int .i64 0, .int .i64 0, .int .i64 0, .int .i64 0, .int .i64 0, .string ⟨#[49, 58, 48, 48, 32, 69, 105, 114, 101, 32, 73, 83, 84, 47, 71, 77, 84]⟩, .string ⟨#[45, 51, 58, 51, 48, 58, 53, 50, 32, 49, 58, 48, 48, 32, 78, 68, 84, 32, 49, 57, 51, 53, 32, 77, 97, 114, 32, 51, 48, 32, 48, 58, 48, 48, 115]⟩, .int .i64 (-12652), .int .i64 1, .int .i64 3600, .string ⟨#[]⟩, .string ⟨#[78, 68, 84]⟩, .bool true, .int .i64 1935, .int .i64 3, .int .i64 1, .int .i64 0, .int .i64 30, .int .i64 0, .int .i64 1, .string ⟨#[45, 51, 58, 51, 48, 58, 53, 50, 32, 49, 58, 48, 48, 32, 78, 68, 84, 32, 49, 57, 51, 53, 32, 77, 97, 114, 32, 51, 48, 32, 48, 58, 48, 48, 115]⟩, .string ⟨#[48, 32, 45, 32, 88, 32, 49, 57, 48, 48, 32, 106, 97, 110, 117, 97, 114, 121, 32, 49, 32, 48]⟩, .int .i64 0, .int .i64 0, .int .i64 0, .string ⟨#[]⟩, .string ⟨#[88]⟩, .bool true, .int .i64 1900, .int .i64 1, .int .i64 1, .int .i64 0, .int .i64 1, .int .i64 0, .int .i64 0, .string ⟨#[48, 58, 48, 48, 32, 45, 32, 88, 32, 49, 57, 48, 48]⟩, .string ⟨#[48, 32, 45, 32, 88, 32, 49, 57, 48, 48, 32, 74, 97, 110, 32, 49, 32, 48, 58, 48, 48, 117]⟩, .int .i64 0, .int .i64 0, .int .i64 0, .string ⟨#[]⟩, .string ⟨#[88]⟩, .bool true, .int .i64 1900, .int .i64 1, .int .i64 1, .int .i64 0, .int .i64 1, .int .i64 0, .int .i64 2, .string ⟨#[48, 58, 48, 48, 32, 45, 32, 88, 32, 49, 57, 48, 48, 32, 74, 97, 110, 32, 49, 32, 48, 58, 48, 48, 117]⟩, .string ⟨#[48, 32, 45, 32, 88, 32, 49, 57, 48, 48, 32, 74, 97, 110, 32, 50]⟩, .int .i64 0, .int .i64 0, .int .i64 0, .string ⟨#[]⟩, .string ⟨#[88]⟩, .bool true, .int .i64 1900, .int .i64 1, .int .i64 1, .int .i64 0, .int .i64 2, .int .i64 0, .int .i64 0, .string ⟨#[48, 58, 48, 48, 32, 45, 32, 88, 32, 49, 57, 48, 48, 32, 74, 97, 110, 32, 50]⟩, .string ⟨#[48, 32, 50, 53, 32, 88]⟩, .int .i64 0, .int .i64 1, .int .i64 90000, .string ⟨#[]⟩, .string ⟨#[88]⟩, .bool false, .int .i64 0, .int .i64 0, .int .i64 0, .int .i64 0, .int .i64 0, .int .i64 0, .int .i64 0, .string ⟨#[48, 58, 48, 48, 32, 50, 53, 58, 48, 48, 32, 88]⟩] 53)) from ⟨Blk.new' _ _ _ rfl, rbelow_alloc hb5 _⟩)
  clear hb5
  generalize w5.alloc (.cells #[.string ⟨#[48, 58, 48, 48, 32, 45, 32, 71, 77, 84, 32, 49, 57, 54, 56, 32, 79, 99, 116, 32, 50, 55]⟩, .int .i64 0, .int .i64 0, .int .i64 0, .string ⟨#[]⟩, .string ⟨#[71, 77, 84]⟩, .bool true, .int .i64 1968, .int .i64 10, .int .i64 1, .int .i64 0, .int .i64 27, .int .i64 0, .int .i64 0, .string ⟨#[48, 58, 48, 48, 32, 45, 32, 71, 77, 84, 32, 49, 57, 54, 56, 32, 79, 99, 116, 32, 50, 55]⟩, .string ⟨#[49, 58, 48, 48, 32, 69, 105, 114, 101, 32, 73, 83, 84, 47, 71, 77, 84]⟩, .int .i64 3600, .int .i64 2, .int .i64 0, .string ⟨#[69, 105, 114, 101]⟩, .string ⟨#[73, 83, 84, 47, 71, 77, 84]⟩, .bool false, .int .i64 0, .int .i64 0, .int .i64 0, .int .i64 0, .int .i64 0, .int .i64 0, .int .i64 0, .string ⟨#[49, 58, 48, 48, 32, 69, 105, 114, 101, 32, 73, 83, 84, 47, 71, 77, 84]⟩, .string ⟨#[45, 51, 58, 51, 48, 58, 53, 50, 32, 49, 58, 48, 48, 32, 78, 68, 84, 32, 49, 57, 51, 53, 32, 77, 97, 114, 32, 51, 48, 32, 48, 58, 48, 48, 115]⟩, .int .i64 (-12652), .int .i64 1, .int .i64 3600, .string ⟨#[]⟩, .string ⟨#[78, 68, 84]⟩, .bool true, .int .i64 1935, .int .i64 3, .int .i64 1, .int .i64 0, .int .i64 30, .int .i64 0, .int .i64 1, .string ⟨#[45, 51, 58, 51, 48, 58, 53, 50, 32, 49, 58, 48, 48, 32, 78, 68, 84, 32, 49, 57, 51, 53, 32, 77, 97, 114, 32, 51, 48, 32, 48, 58, 48, 48, 115]⟩, .string ⟨#[48, 32, 45, 32, 88, 32, 49, 57, 48, 48, 32, 106, 97, 110, 117, 97, 114, 121, 32, 49, 32, 48]⟩, .int .i64 0, .int .i64 0, .int .i64 0, .string ⟨#[]⟩, .string ⟨#[88]⟩, .bool true, .int .i64 1900, .int .i64 1, .int .i64 1, .int .i64 0, .int .i64 1, .int .i64 0, .int .i64 0, .string ⟨#[48, 58, 48, 48, 32, 45, 32, 88, 32, 49, 57, 48, 48]⟩, .string ⟨#[48, 32, 45, 32, 88, 32, 49, 57, 48, 48, 32, 74, 97, 110, 32, 49, 32, 48, 58, 48, 48, 117]⟩, .int .i64 0, .int .i64 0, .int .i64 0, .string ⟨#[]⟩, .string ⟨#[88]⟩, .bool true, .int .i64 1900, .int .i64 1, .int .i64 1, .int .i64 0, .int .i64 1, .int .i64 0, .int .i64 2, .string ⟨#[48, 58, 48, 48, 32, 45, 32, 88, 32, 49, 57, 48, 48, 32, 74, 97, 110, 32, 49, 32, 48, 58, 48, 48, 117]⟩, .string ⟨#[48, 32, 45, 32, 88, 32, 49, 57, 48, 48, 32, 74, 97, 110, 32, 50]⟩, .int .i64 0, .int .i64 0, .int .i64 0, .string ⟨#[]⟩, .string ⟨#[88]⟩, .bool true, .int .i64 1900, .int .i64 1, .int .i64 1, .int .i64 0, .int .i64 2, .int .i64 0, .int .i64 0, .string ⟨#[48, 58, 48, 48, 32, 45, 32, 88, 32, 49, 57, 48, 48, 32, 74, 97, 110, 32, 50]⟩, .string ⟨#[48, 32, 50, 53, 32, 88]⟩, .int .i64 0, .int .i64 1, .int .i64 90000, .string ⟨#[]⟩, .string ⟨#[88]⟩, .bool false, .int .i64 0, .int .i64 0, .int .i64 0, .int .i64 0, .int .i64 0, .int .i64 0, .int .i64 0, .string ⟨#[48, 58, 48, 48, 32, 50, 53, 58, 48, 48, 32, 88]⟩] 53) = W0 at *
  generalize w5.heap.size = gL at *
  go_loopw [37] (fun i wr => ∃ k : Nat, k ≤ 7 ∧ i = .int .i64 (k : Int) ∧ Hid (Below W0.heap.size W0 wr)) (fun i _ => 7 - (intOf i).toNat)
  case atStart => exact ⟨0, by omega, rfl, Lib.hid (Below.refl _ _)⟩
  case round =>
    obtain ⟨k, hk, rfl, HI⟩ := hrel
    by_cases hlt : k < 7
    · have HBw := Lib.hid (HB.out.2.trans (HI.out.mono HB.out.2.size))
      obtain ⟨s, off, kd, sv, sn, sf, is, y, m, d1, d2, d3, h1, h2, ln, HX⟩ := ex_at wr gL k hlt (HB.out.1.below HI.out HB.out.1.lt)
      have HX := Lib.hid HX
      obtain ⟨c0, c1, c2, c3, c4, c5, c6, c7, c8, c9, c10, c11, c12, c13, c14, -, -, -, -, -⟩ := HX.out
      have HSp := Lib.hid (fun W hW => split_parse s W (HT.out W hW).2 (HT.out W hW).1 (by have := HX.out.size; omega) (by have := HX.out.count; omega))
      rw [HX.out.parse] at HSp
      have HPr := Lib.hid (show ∀ W, Below w.heap.size w W → Calls Tryz.prog 13 #[.agg #[.int .i64 off, .int .i64 kd, .int .i64 sv, .string sn, .string sf, .bool is, .int .i64 y, .int .i64 m, .int .i64 d1, .int .i64 d2, .int .i64 d3, .int .i64 h1, .int .i64 h2]] W fun e w' => e = .returned (.tuple #[.string ln, .int .i64 0]) ∧ Below W.heap.size W w' from fun W hW => by
        have h := eprint_any ⟨off, kd, sv, sn.data.toList, sf.data.toList, ⟨is, y, m, (d1, d2, d3), (h1, h2)⟩⟩ W (HT.out W hW).1 (by have := HX.out.sizes.1; simp; omega) (by have := HX.out.sizes.2; simp; omega)
        rw [HX.out.print] at h
        simpa [EraP.cells] using h)
      have HE := Lib.hid (show Blk (wr.alloc (.cells #[.string s, .int .i64 off, .int .i64 kd, .int .i64 sv, .string sn, .string sf, .bool is, .int .i64 y, .int .i64 m, .int .i64 d1, .int .i64 d2, .int .i64 d3, .int .i64 h1, .int .i64 h2, .string ln] 53)) wr.heap.size 53 #[.string s, .int .i64 off, .int .i64 kd, .int .i64 sv, .string sn, .string sf, .bool is, .int .i64 y, .int .i64 m, .int .i64 d1, .int .i64 d2, .int .i64 d3, .int .i64 h1, .int .i64 h2, .string ln] ∧ Below w.heap.size w (wr.alloc (.cells #[.string s, .int .i64 off, .int .i64 kd, .int .i64 sv, .string sn, .string sf, .bool is, .int .i64 y, .int .i64 m, .int .i64 d1, .int .i64 d2, .int .i64 d3, .int .i64 h1, .int .i64 h2, .string ln] 53)) ∧ Below W0.heap.size W0 (wr.alloc (.cells #[.string s, .int .i64 off, .int .i64 kd, .int .i64 sv, .string sn, .string sf, .bool is, .int .i64 y, .int .i64 m, .int .i64 d1, .int .i64 d2, .int .i64 d3, .int .i64 h1, .int .i64 h2, .string ln] 53)) from ⟨Blk.new' _ _ _ rfl, rbelow_alloc HBw.out _, rbelow_alloc HI.out _⟩)
      go_wp2_with fail
      refine (HSp.out _ HE.out.2.1).mono ?_
      rintro e w6 ⟨⟨g, n, rfl, -, -, -, HPa⟩, hb6⟩
      have HE6 := Lib.hid (show Blk w6 wr.heap.size 53 #[.string s, .int .i64 off, .int .i64 kd, .int .i64 sv, .string sn, .string sf, .bool is, .int .i64 y, .int .i64 m, .int .i64 d1, .int .i64 d2, .int .i64 d3, .int .i64 h1, .int .i64 h2, .string ln] ∧ Below w.heap.size w w6 ∧ Below W0.heap.size W0 w6 from ⟨HE.out.1.below hb6 HE.out.1.lt, HE.out.2.1.trans (hb6.mono HE.out.2.1.size), HE.out.2.2.trans (hb6.mono HE.out.2.2.size)⟩)
      clear hb6 HE HSp c0 c1 c2 c3 c4 c5 c6 c7 c8 c9 c10 c11 c12 c13 c14
      go_wp2_with fail
      refine HPa.out.mono ?_
      rintro e w7 ⟨rfl, hb7⟩
      simp only [EraP.cells, ba_list]
      have HE7 := Lib.hid (show Blk (w7.alloc (.cells #[.int .i64 off, .int .i64 kd, .int .i64 sv, .string sn, .string sf, .bool is, .int .i64 y, .int .i64 m, .int .i64 d1, .int .i64 d2, .int .i64 d3, .int .i64 h1, .int .i64 h2] 31)) wr.heap.size 53 #[.string s, .int .i64 off, .int .i64 kd, .int .i64 sv, .string sn, .string sf, .bool is, .int .i64 y, .int .i64 m, .int .i64 d1, .int .i64 d2, .int .i64 d3, .int .i64 h1, .int .i64 h2, .string ln] ∧ Blk (w7.alloc (.cells #[.int .i64 off, .int .i64 kd, .int .i64 sv, .string sn, .string sf, .bool is, .int .i64 y, .int .i64 m, .int .i64 d1, .int .i64 d2, .int .i64 d3, .int .i64 h1, .int .i64 h2] 31)) w7.heap.size 31 #[.int .i64 off, .int .i64 kd, .int .i64 sv, .string sn, .string sf, .bool is, .int .i64 y, .int .i64 m, .int .i64 d1, .int .i64 d2, .int .i64 d3, .int .i64 h1, .int .i64 h2] ∧ Below w.heap.size w (w7.alloc (.cells #[.int .i64 off, .int .i64 kd, .int .i64 sv, .string sn, .string sf, .bool is, .int .i64 y, .int .i64 m, .int .i64 d1, .int .i64 d2, .int .i64 d3, .int .i64 h1, .int .i64 h2] 31)) ∧ Below W0.heap.size W0 (w7.alloc (.cells #[.int .i64 off, .int .i64 kd, .int .i64 sv, .string sn, .string sf, .bool is, .int .i64 y, .int .i64 m, .int .i64 d1, .int .i64 d2, .int .i64 d3, .int .i64 h1, .int .i64 h2] 31)) from ⟨(HE6.out.1.below hb7 HE6.out.1.lt).alloc _, Blk.new' _ _ _ rfl, rbelow_alloc (HE6.out.2.1.trans (hb7.mono HE6.out.2.1.size)) _, rbelow_alloc (HE6.out.2.2.trans (hb7.mono HE6.out.2.2.size)) _⟩)
      clear hb7 HE6 HPa
      generalize wr.heap.size = g2 at *
      go_upto_region 5 with fail
      generalize w7.alloc (.cells #[.int .i64 off, .int .i64 kd, .int .i64 sv, .string sn, .string sf, .bool is, .int .i64 y, .int .i64 m, .int .i64 d1, .int .i64 d2, .int .i64 d3, .int .i64 h1, .int .i64 h2] 31) = w8 at *
      generalize w7.heap.size = g3 at *
      have e0 : w8.cell? ⟨g2, 1, none⟩ = some (.int .i64 off) := HE7.out.1.cell_ rfl
      have e1 : w8.cell? ⟨g2, 2, none⟩ = some (.int .i64 kd) := HE7.out.1.cell_ rfl
      have e2 : w8.cell? ⟨g2, 3, none⟩ = some (.int .i64 sv) := HE7.out.1.cell_ rfl
      have e3 : w8.cell? ⟨g2, 4, none⟩ = some (.string sn) := HE7.out.1.cell_ rfl
      have e4 : w8.cell? ⟨g2, 5, none⟩ = some (.string sf) := HE7.out.1.cell_ rfl
      have e5 : w8.cell? ⟨g2, 6, none⟩ = some (.bool is) := HE7.out.1.cell_ rfl
      have e6 : w8.cell? ⟨g2, 7, none⟩ = some (.int .i64 y) := HE7.out.1.cell_ rfl
      have e7 : w8.cell? ⟨g2, 8, none⟩ = some (.int .i64 m) := HE7.out.1.cell_ rfl
      have e8 : w8.cell? ⟨g2, 9, none⟩ = some (.int .i64 d1) := HE7.out.1.cell_ rfl
      have e9 : w8.cell? ⟨g2, 10, none⟩ = some (.int .i64 d2) := HE7.out.1.cell_ rfl
      have e10 : w8.cell? ⟨g2, 11, none⟩ = some (.int .i64 d3) := HE7.out.1.cell_ rfl
      have e11 : w8.cell? ⟨g2, 12, none⟩ = some (.int .i64 h1) := HE7.out.1.cell_ rfl
      have e12 : w8.cell? ⟨g2, 13, none⟩ = some (.int .i64 h2) := HE7.out.1.cell_ rfl
      go_wp2_with fail
      refine (HPr.out _ HE7.out.2.2.1).mono ?_
      rintro e w9 ⟨rfl, hb9⟩
      have HE9 := Lib.hid (show Blk w9 g2 53 #[.string s, .int .i64 off, .int .i64 kd, .int .i64 sv, .string sn, .string sf, .bool is, .int .i64 y, .int .i64 m, .int .i64 d1, .int .i64 d2, .int .i64 d3, .int .i64 h1, .int .i64 h2, .string ln] ∧ Blk w9 g3 31 #[.int .i64 off, .int .i64 kd, .int .i64 sv, .string sn, .string sf, .bool is, .int .i64 y, .int .i64 m, .int .i64 d1, .int .i64 d2, .int .i64 d3, .int .i64 h1, .int .i64 h2] ∧ Below W0.heap.size W0 w9 from ⟨HE7.out.1.below hb9 HE7.out.1.lt, HE7.out.2.1.below hb9 HE7.out.2.1.lt, HE7.out.2.2.2.trans (hb9.mono HE7.out.2.2.2.size)⟩)
      clear hb9 HE7 HPr e0 e1 e2 e3 e4 e5 e6 e7 e8 e9 e10 e11 e12
      have e0 : w9.cell? ⟨g2, 1, none⟩ = some (.int .i64 off) := HE9.out.1.cell_ rfl
      have r0 : w9.cell? ⟨g3, 0, none⟩ = some (.int .i64 off) := HE9.out.2.1.cell_ rfl
      have e1 : w9.cell? ⟨g2, 2, none⟩ = some (.int .i64 kd) := HE9.out.1.cell_ rfl
      have r1 : w9.cell? ⟨g3, 1, none⟩ = some (.int .i64 kd) := HE9.out.2.1.cell_ rfl
      have e2 : w9.cell? ⟨g2, 3, none⟩ = some (.int .i64 sv) := HE9.out.1.cell_ rfl
      have r2 : w9.cell? ⟨g3, 2, none⟩ = some (.int .i64 sv) := HE9.out.2.1.cell_ rfl
      have e3 : w9.cell? ⟨g2, 4, none⟩ = some (.string sn) := HE9.out.1.cell_ rfl
      have r3 : w9.cell? ⟨g3, 3, none⟩ = some (.string sn) := HE9.out.2.1.cell_ rfl
      have e4 : w9.cell? ⟨g2, 5, none⟩ = some (.string sf) := HE9.out.1.cell_ rfl
      have r4 : w9.cell? ⟨g3, 4, none⟩ = some (.string sf) := HE9.out.2.1.cell_ rfl
      have e5 : w9.cell? ⟨g2, 6, none⟩ = some (.bool is) := HE9.out.1.cell_ rfl
      have r5 : w9.cell? ⟨g3, 5, none⟩ = some (.bool is) := HE9.out.2.1.cell_ rfl
      have e6 : w9.cell? ⟨g2, 7, none⟩ = some (.int .i64 y) := HE9.out.1.cell_ rfl
      have r6 : w9.cell? ⟨g3, 6, none⟩ = some (.int .i64 y) := HE9.out.2.1.cell_ rfl
      have e7 : w9.cell? ⟨g2, 8, none⟩ = some (.int .i64 m) := HE9.out.1.cell_ rfl
      have r7 : w9.cell? ⟨g3, 7, none⟩ = some (.int .i64 m) := HE9.out.2.1.cell_ rfl
      have e8 : w9.cell? ⟨g2, 9, none⟩ = some (.int .i64 d1) := HE9.out.1.cell_ rfl
      have r8 : w9.cell? ⟨g3, 8, none⟩ = some (.int .i64 d1) := HE9.out.2.1.cell_ rfl
      have e9 : w9.cell? ⟨g2, 10, none⟩ = some (.int .i64 d2) := HE9.out.1.cell_ rfl
      have r9 : w9.cell? ⟨g3, 9, none⟩ = some (.int .i64 d2) := HE9.out.2.1.cell_ rfl
      have e10 : w9.cell? ⟨g2, 11, none⟩ = some (.int .i64 d3) := HE9.out.1.cell_ rfl
      have r10 : w9.cell? ⟨g3, 10, none⟩ = some (.int .i64 d3) := HE9.out.2.1.cell_ rfl
      have e11 : w9.cell? ⟨g2, 12, none⟩ = some (.int .i64 h1) := HE9.out.1.cell_ rfl
      have r11 : w9.cell? ⟨g3, 11, none⟩ = some (.int .i64 h1) := HE9.out.2.1.cell_ rfl
      have e12 : w9.cell? ⟨g2, 13, none⟩ = some (.int .i64 h2) := HE9.out.1.cell_ rfl
      have r12 : w9.cell? ⟨g3, 12, none⟩ = some (.int .i64 h2) := HE9.out.2.1.cell_ rfl
      have e14 : w9.cell? ⟨g2, 14, none⟩ = some (.string ln) := HE9.out.1.cell_ rfl
      go_wp2_with fail
      go_roundw
      case rel => exact ⟨k + 1, by omega, by go_num, Lib.hid HE9.out.2.2⟩
      case measure => simp [intOf]; omega
    · obtain rfl : k = 7 := by omega
      have HBw := Lib.hid (HB.out.2.trans (HI.out.mono HB.out.2.size))
      clear HI HB hlt hk
      go_wp2_with fail
      have HB1 := Lib.hid (show Blk ((((((((wr.alloc (.cells #[.string ⟨#[48]⟩, .string ⟨#[45]⟩] 9)).alloc (.cells #[.string ⟨#[120]⟩, .string ⟨#[45]⟩, .string ⟨#[88]⟩] 9)).alloc (.cells #[.string ⟨#[48]⟩, .string ⟨#[97, 33]⟩, .string ⟨#[88]⟩] 9)).alloc (.cells #[.string ⟨#[48]⟩, .string ⟨#[45]⟩, .string ⟨#[88]⟩, .string ⟨#[48, 49, 57, 48, 48]⟩] 9)).alloc (.cells #[.string ⟨#[48]⟩, .string ⟨#[45]⟩, .string ⟨#[88]⟩, .string ⟨#[49, 56, 52, 57]⟩] 9)).alloc (.cells #[.string ⟨#[48]⟩, .string ⟨#[45]⟩, .string ⟨#[88]⟩, .string ⟨#[49, 57, 48, 48]⟩, .string ⟨#[77, 97]⟩] 9)).alloc (.cells #[.string ⟨#[48]⟩, .string ⟨#[45]⟩, .string ⟨#[88, 32, 89]⟩] 9)).alloc (.cells #[.slice (some ⟨wr.heap.size, 0, none⟩) 2 2, .int .i64 5, .slice (some ⟨wr.heap.size + 1, 0, none⟩) 3 3, .int .i64 5, .slice (some ⟨wr.heap.size + 2, 0, none⟩) 3 3, .int .i64 9, .slice (some ⟨wr.heap.size + 3, 0, none⟩) 4 4, .int .i64 5, .slice (some ⟨wr.heap.size + 4, 0, none⟩) 4 4, .int .i64 3, .slice (some ⟨wr.heap.size + 5, 0, none⟩) 5 5, .int .i64 8, .slice (some ⟨wr.heap.size + 6, 0, none⟩) 3 3, .int .i64 15] 55)) (wr.heap.size + 7) 55 (badRow wr.heap.size) ∧ Blk ((((((((wr.alloc (.cells #[.string ⟨#[48]⟩, .string ⟨#[45]⟩] 9)).alloc (.cells #[.string ⟨#[120]⟩, .string ⟨#[45]⟩, .string ⟨#[88]⟩] 9)).alloc (.cells #[.string ⟨#[48]⟩, .string ⟨#[97, 33]⟩, .string ⟨#[88]⟩] 9)).alloc (.cells #[.string ⟨#[48]⟩, .string ⟨#[45]⟩, .string ⟨#[88]⟩, .string ⟨#[48, 49, 57, 48, 48]⟩] 9)).alloc (.cells #[.string ⟨#[48]⟩, .string ⟨#[45]⟩, .string ⟨#[88]⟩, .string ⟨#[49, 56, 52, 57]⟩] 9)).alloc (.cells #[.string ⟨#[48]⟩, .string ⟨#[45]⟩, .string ⟨#[88]⟩, .string ⟨#[49, 57, 48, 48]⟩, .string ⟨#[77, 97]⟩] 9)).alloc (.cells #[.string ⟨#[48]⟩, .string ⟨#[45]⟩, .string ⟨#[88, 32, 89]⟩] 9)).alloc (.cells #[.slice (some ⟨wr.heap.size, 0, none⟩) 2 2, .int .i64 5, .slice (some ⟨wr.heap.size + 1, 0, none⟩) 3 3, .int .i64 5, .slice (some ⟨wr.heap.size + 2, 0, none⟩) 3 3, .int .i64 9, .slice (some ⟨wr.heap.size + 3, 0, none⟩) 4 4, .int .i64 5, .slice (some ⟨wr.heap.size + 4, 0, none⟩) 4 4, .int .i64 3, .slice (some ⟨wr.heap.size + 5, 0, none⟩) 5 5, .int .i64 8, .slice (some ⟨wr.heap.size + 6, 0, none⟩) 3 3, .int .i64 15] 55)) (wr.heap.size + 0) 9 (strV badL0).toArray ∧ Blk ((((((((wr.alloc (.cells #[.string ⟨#[48]⟩, .string ⟨#[45]⟩] 9)).alloc (.cells #[.string ⟨#[120]⟩, .string ⟨#[45]⟩, .string ⟨#[88]⟩] 9)).alloc (.cells #[.string ⟨#[48]⟩, .string ⟨#[97, 33]⟩, .string ⟨#[88]⟩] 9)).alloc (.cells #[.string ⟨#[48]⟩, .string ⟨#[45]⟩, .string ⟨#[88]⟩, .string ⟨#[48, 49, 57, 48, 48]⟩] 9)).alloc (.cells #[.string ⟨#[48]⟩, .string ⟨#[45]⟩, .string ⟨#[88]⟩, .string ⟨#[49, 56, 52, 57]⟩] 9)).alloc (.cells #[.string ⟨#[48]⟩, .string ⟨#[45]⟩, .string ⟨#[88]⟩, .string ⟨#[49, 57, 48, 48]⟩, .string ⟨#[77, 97]⟩] 9)).alloc (.cells #[.string ⟨#[48]⟩, .string ⟨#[45]⟩, .string ⟨#[88, 32, 89]⟩] 9)).alloc (.cells #[.slice (some ⟨wr.heap.size, 0, none⟩) 2 2, .int .i64 5, .slice (some ⟨wr.heap.size + 1, 0, none⟩) 3 3, .int .i64 5, .slice (some ⟨wr.heap.size + 2, 0, none⟩) 3 3, .int .i64 9, .slice (some ⟨wr.heap.size + 3, 0, none⟩) 4 4, .int .i64 5, .slice (some ⟨wr.heap.size + 4, 0, none⟩) 4 4, .int .i64 3, .slice (some ⟨wr.heap.size + 5, 0, none⟩) 5 5, .int .i64 8, .slice (some ⟨wr.heap.size + 6, 0, none⟩) 3 3, .int .i64 15] 55)) (wr.heap.size + 1) 9 (strV badL1).toArray ∧ Blk ((((((((wr.alloc (.cells #[.string ⟨#[48]⟩, .string ⟨#[45]⟩] 9)).alloc (.cells #[.string ⟨#[120]⟩, .string ⟨#[45]⟩, .string ⟨#[88]⟩] 9)).alloc (.cells #[.string ⟨#[48]⟩, .string ⟨#[97, 33]⟩, .string ⟨#[88]⟩] 9)).alloc (.cells #[.string ⟨#[48]⟩, .string ⟨#[45]⟩, .string ⟨#[88]⟩, .string ⟨#[48, 49, 57, 48, 48]⟩] 9)).alloc (.cells #[.string ⟨#[48]⟩, .string ⟨#[45]⟩, .string ⟨#[88]⟩, .string ⟨#[49, 56, 52, 57]⟩] 9)).alloc (.cells #[.string ⟨#[48]⟩, .string ⟨#[45]⟩, .string ⟨#[88]⟩, .string ⟨#[49, 57, 48, 48]⟩, .string ⟨#[77, 97]⟩] 9)).alloc (.cells #[.string ⟨#[48]⟩, .string ⟨#[45]⟩, .string ⟨#[88, 32, 89]⟩] 9)).alloc (.cells #[.slice (some ⟨wr.heap.size, 0, none⟩) 2 2, .int .i64 5, .slice (some ⟨wr.heap.size + 1, 0, none⟩) 3 3, .int .i64 5, .slice (some ⟨wr.heap.size + 2, 0, none⟩) 3 3, .int .i64 9, .slice (some ⟨wr.heap.size + 3, 0, none⟩) 4 4, .int .i64 5, .slice (some ⟨wr.heap.size + 4, 0, none⟩) 4 4, .int .i64 3, .slice (some ⟨wr.heap.size + 5, 0, none⟩) 5 5, .int .i64 8, .slice (some ⟨wr.heap.size + 6, 0, none⟩) 3 3, .int .i64 15] 55)) (wr.heap.size + 2) 9 (strV badL2).toArray ∧ Blk ((((((((wr.alloc (.cells #[.string ⟨#[48]⟩, .string ⟨#[45]⟩] 9)).alloc (.cells #[.string ⟨#[120]⟩, .string ⟨#[45]⟩, .string ⟨#[88]⟩] 9)).alloc (.cells #[.string ⟨#[48]⟩, .string ⟨#[97, 33]⟩, .string ⟨#[88]⟩] 9)).alloc (.cells #[.string ⟨#[48]⟩, .string ⟨#[45]⟩, .string ⟨#[88]⟩, .string ⟨#[48, 49, 57, 48, 48]⟩] 9)).alloc (.cells #[.string ⟨#[48]⟩, .string ⟨#[45]⟩, .string ⟨#[88]⟩, .string ⟨#[49, 56, 52, 57]⟩] 9)).alloc (.cells #[.string ⟨#[48]⟩, .string ⟨#[45]⟩, .string ⟨#[88]⟩, .string ⟨#[49, 57, 48, 48]⟩, .string ⟨#[77, 97]⟩] 9)).alloc (.cells #[.string ⟨#[48]⟩, .string ⟨#[45]⟩, .string ⟨#[88, 32, 89]⟩] 9)).alloc (.cells #[.slice (some ⟨wr.heap.size, 0, none⟩) 2 2, .int .i64 5, .slice (some ⟨wr.heap.size + 1, 0, none⟩) 3 3, .int .i64 5, .slice (some ⟨wr.heap.size + 2, 0, none⟩) 3 3, .int .i64 9, .slice (some ⟨wr.heap.size + 3, 0, none⟩) 4 4, .int .i64 5, .slice (some ⟨wr.heap.size + 4, 0, none⟩) 4 4, .int .i64 3, .slice (some ⟨wr.heap.size + 5, 0, none⟩) 5 5, .int .i64 8, .slice (some ⟨wr.heap.size + 6, 0, none⟩) 3 3, .int .i64 15] 55)) (wr.heap.size + 3) 9 (strV badL3).toArray ∧ Blk ((((((((wr.alloc (.cells #[.string ⟨#[48]⟩, .string ⟨#[45]⟩] 9)).alloc (.cells #[.string ⟨#[120]⟩, .string ⟨#[45]⟩, .string ⟨#[88]⟩] 9)).alloc (.cells #[.string ⟨#[48]⟩, .string ⟨#[97, 33]⟩, .string ⟨#[88]⟩] 9)).alloc (.cells #[.string ⟨#[48]⟩, .string ⟨#[45]⟩, .string ⟨#[88]⟩, .string ⟨#[48, 49, 57, 48, 48]⟩] 9)).alloc (.cells #[.string ⟨#[48]⟩, .string ⟨#[45]⟩, .string ⟨#[88]⟩, .string ⟨#[49, 56, 52, 57]⟩] 9)).alloc (.cells #[.string ⟨#[48]⟩, .string ⟨#[45]⟩, .string ⟨#[88]⟩, .string ⟨#[49, 57, 48, 48]⟩, .string ⟨#[77, 97]⟩] 9)).alloc (.cells #[.string ⟨#[48]⟩, .string ⟨#[45]⟩, .string ⟨#[88, 32, 89]⟩] 9)).alloc (.cells #[.slice (some ⟨wr.heap.size, 0, none⟩) 2 2, .int .i64 5, .slice (some ⟨wr.heap.size + 1, 0, none⟩) 3 3, .int .i64 5, .slice (some ⟨wr.heap.size + 2, 0, none⟩) 3 3, .int .i64 9, .slice (some ⟨wr.heap.size + 3, 0, none⟩) 4 4, .int .i64 5, .slice (some ⟨wr.heap.size + 4, 0, none⟩) 4 4, .int .i64 3, .slice (some ⟨wr.heap.size + 5, 0, none⟩) 5 5, .int .i64 8, .slice (some ⟨wr.heap.size + 6, 0, none⟩) 3 3, .int .i64 15] 55)) (wr.heap.size + 4) 9 (strV badL4).toArray ∧ Blk ((((((((wr.alloc (.cells #[.string ⟨#[48]⟩, .string ⟨#[45]⟩] 9)).alloc (.cells #[.string ⟨#[120]⟩, .string ⟨#[45]⟩, .string ⟨#[88]⟩] 9)).alloc (.cells #[.string ⟨#[48]⟩, .string ⟨#[97, 33]⟩, .string ⟨#[88]⟩] 9)).alloc (.cells #[.string ⟨#[48]⟩, .string ⟨#[45]⟩, .string ⟨#[88]⟩, .string ⟨#[48, 49, 57, 48, 48]⟩] 9)).alloc (.cells #[.string ⟨#[48]⟩, .string ⟨#[45]⟩, .string ⟨#[88]⟩, .string ⟨#[49, 56, 52, 57]⟩] 9)).alloc (.cells #[.string ⟨#[48]⟩, .string ⟨#[45]⟩, .string ⟨#[88]⟩, .string ⟨#[49, 57, 48, 48]⟩, .string ⟨#[77, 97]⟩] 9)).alloc (.cells #[.string ⟨#[48]⟩, .string ⟨#[45]⟩, .string ⟨#[88, 32, 89]⟩] 9)).alloc (.cells #[.slice (some ⟨wr.heap.size, 0, none⟩) 2 2, .int .i64 5, .slice (some ⟨wr.heap.size + 1, 0, none⟩) 3 3, .int .i64 5, .slice (some ⟨wr.heap.size + 2, 0, none⟩) 3 3, .int .i64 9, .slice (some ⟨wr.heap.size + 3, 0, none⟩) 4 4, .int .i64 5, .slice (some ⟨wr.heap.size + 4, 0, none⟩) 4 4, .int .i64 3, .slice (some ⟨wr.heap.size + 5, 0, none⟩) 5 5, .int .i64 8, .slice (some ⟨wr.heap.size + 6, 0, none⟩) 3 3, .int .i64 15] 55)) (wr.heap.size + 5) 9 (strV badL5).toArray ∧ Blk ((((((((wr.alloc (.cells #[.string ⟨#[48]⟩, .string ⟨#[45]⟩] 9)).alloc (.cells #[.string ⟨#[120]⟩, .string ⟨#[45]⟩, .string ⟨#[88]⟩] 9)).alloc (.cells #[.string ⟨#[48]⟩, .string ⟨#[97, 33]⟩, .string ⟨#[88]⟩] 9)).alloc (.cells #[.string ⟨#[48]⟩, .string ⟨#[45]⟩, .string ⟨#[88]⟩, .string ⟨#[48, 49, 57, 48, 48]⟩] 9)).alloc (.cells #[.string ⟨#[48]⟩, .string ⟨#[45]⟩, .string ⟨#[88]⟩, .string ⟨#[49, 56, 52, 57]⟩] 9)).alloc (.cells #[.string ⟨#[48]⟩, .string ⟨#[45]⟩, .string ⟨#[88]⟩, .string ⟨#[49, 57, 48, 48]⟩, .string ⟨#[77, 97]⟩] 9)).alloc (.cells #[.string ⟨#[48]⟩, .string ⟨#[45]⟩, .string ⟨#[88, 32, 89]⟩] 9)).alloc (.cells #[.slice (some ⟨wr.heap.size, 0, none⟩) 2 2, .int .i64 5, .slice (some ⟨wr.heap.size + 1, 0, none⟩) 3 3, .int .i64 5, .slice (some ⟨wr.heap.size + 2, 0, none⟩) 3 3, .int .i64 9, .slice (some ⟨wr.heap.size + 3, 0, none⟩) 4 4, .int .i64 5, .slice (some ⟨wr.heap.size + 4, 0, none⟩) 4 4, .int .i64 3, .slice (some ⟨wr.heap.size + 5, 0, none⟩) 5 5, .int .i64 8, .slice (some ⟨wr.heap.size + 6, 0, none⟩) 3 3, .int .i64 15] 55)) (wr.heap.size + 6) 9 (strV badL6).toArray ∧ Below w.heap.size w ((((((((wr.alloc (.cells #[.string ⟨#[48]⟩, .string ⟨#[45]⟩] 9)).alloc (.cells #[.string ⟨#[120]⟩, .string ⟨#[45]⟩, .string ⟨#[88]⟩] 9)).alloc (.cells #[.string ⟨#[48]⟩, .string ⟨#[97, 33]⟩, .string ⟨#[88]⟩] 9)).alloc (.cells #[.string ⟨#[48]⟩, .string ⟨#[45]⟩, .string ⟨#[88]⟩, .string ⟨#[48, 49, 57, 48, 48]⟩] 9)).alloc (.cells #[.string ⟨#[48]⟩, .string ⟨#[45]⟩, .string ⟨#[88]⟩, .string ⟨#[49, 56, 52, 57]⟩] 9)).alloc (.cells #[.string ⟨#[48]⟩, .string ⟨#[45]⟩, .string ⟨#[88]⟩, .string ⟨#[49, 57, 48, 48]⟩, .string ⟨#[77, 97]⟩] 9)).alloc (.cells #[.string ⟨#[48]⟩, .string ⟨#[45]⟩, .string ⟨#[88, 32, 89]⟩] 9)).alloc (.cells #[.slice (some ⟨wr.heap.size, 0, none⟩) 2 2, .int .i64 5, .slice (some ⟨wr.heap.size + 1, 0, none⟩) 3 3, .int .i64 5, .slice (some ⟨wr.heap.size + 2, 0, none⟩) 3 3, .int .i64 9, .slice (some ⟨wr.heap.size + 3, 0, none⟩) 4 4, .int .i64 5, .slice (some ⟨wr.heap.size + 4, 0, none⟩) 4 4, .int .i64 3, .slice (some ⟨wr.heap.size + 5, 0, none⟩) 5 5, .int .i64 8, .slice (some ⟨wr.heap.size + 6, 0, none⟩) 3 3, .int .i64 15] 55)) from
        ⟨Blk.new' _ _ _ (by simp), (((((((Blk.new' _ _ _ (by simp)).alloc _).alloc _).alloc _).alloc _).alloc _).alloc _).alloc _, ((((((Blk.new' _ _ _ (by simp)).alloc _).alloc _).alloc _).alloc _).alloc _).alloc _, (((((Blk.new' _ _ _ (by simp)).alloc _).alloc _).alloc _).alloc _).alloc _, ((((Blk.new' _ _ _ (by simp)).alloc _).alloc _).alloc _).alloc _, (((Blk.new' _ _ _ (by simp)).alloc _).alloc _).alloc _, ((Blk.new' _ _ _ (by simp)).alloc _).alloc _, (Blk.new' _ _ _ (by simp)).alloc _, rbelow_alloc (rbelow_alloc (rbelow_alloc (rbelow_alloc (rbelow_alloc (rbelow_alloc (rbelow_alloc (rbelow_alloc (HBw.out) _) _) _) _) _) _) _) _⟩)
      generalize ((((((((wr.alloc (.cells #[.string ⟨#[48]⟩, .string ⟨#[45]⟩] 9)).alloc (.cells #[.string ⟨#[120]⟩, .string ⟨#[45]⟩, .string ⟨#[88]⟩] 9)).alloc (.cells #[.string ⟨#[48]⟩, .string ⟨#[97, 33]⟩, .string ⟨#[88]⟩] 9)).alloc (.cells #[.string ⟨#[48]⟩, .string ⟨#[45]⟩, .string ⟨#[88]⟩, .string ⟨#[48, 49, 57, 48, 48]⟩] 9)).alloc (.cells #[.string ⟨#[48]⟩, .string ⟨#[45]⟩, .string ⟨#[88]⟩, .string ⟨#[49, 56, 52, 57]⟩] 9)).alloc (.cells #[.string ⟨#[48]⟩, .string ⟨#[45]⟩, .string ⟨#[88]⟩, .string ⟨#[49, 57, 48, 48]⟩, .string ⟨#[77, 97]⟩] 9)).alloc (.cells #[.string ⟨#[48]⟩, .string ⟨#[45]⟩, .string ⟨#[88, 32, 89]⟩] 9)).alloc (.cells #[.slice (some ⟨wr.heap.size, 0, none⟩) 2 2, .int .i64 5, .slice (some ⟨wr.heap.size + 1, 0, none⟩) 3 3, .int .i64 5, .slice (some ⟨wr.heap.size + 2, 0, none⟩) 3 3, .int .i64 9, .slice (some ⟨wr.heap.size + 3, 0, none⟩) 4 4, .int .i64 5, .slice (some ⟨wr.heap.size + 4, 0, none⟩) 4 4, .int .i64 3, .slice (some ⟨wr.heap.size + 5, 0, none⟩) 5 5, .int .i64 8, .slice (some ⟨wr.heap.size + 6, 0, none⟩) 3 3, .int .i64 15] 55)) = W1 at *
      generalize wr.heap.size = gL2 at *
      go_loopw [89] (fun i wr => ∃ k : Nat, k ≤ 7 ∧ i = .int .i64 (k : Int) ∧ Hid (Below W1.heap.size W1 wr)) (fun i _ => 7 - (intOf i).toNat)
      case atStart => exact ⟨0, by omega, rfl, Lib.hid (Below.refl _ _)⟩
      case round =>
        obtain ⟨k, hk, rfl, HI⟩ := hrel
        clear HBw
        have HBv := Lib.hid (HB1.out.2.2.2.2.2.2.2.2.trans (HI.out.mono HB1.out.2.2.2.2.2.2.2.2.size))
        by_cases hlt : k < 7
        · obtain ⟨hB, b0, b1, b2, b3, b4, b5, b6, -⟩ := HB1.out
          obtain ⟨h, n, x, ls, HX⟩ := bad_at wr (gL2 + 7) gL2 k hlt (hB.below HI.out hB.lt) (b0.below HI.out b0.lt) (b1.below HI.out b1.lt) (b2.below HI.out b2.lt) (b3.below HI.out b3.lt) (b4.below HI.out b4.lt) (b5.below HI.out b5.lt) (b6.below HI.out b6.lt)
          clear hB b0 b1 b2 b3 b4 b5 b6
          have HX := Lib.hid HX
          have c0 := HX.out.c0
          have c1 := HX.out.c1
          have HPa := Lib.hid (show ∀ W, Below wr.heap.size wr W → Calls Tryz.prog 11 #[.slice (some ⟨h, 0, none⟩) n n] W fun e w' => e = .returned (.tuple #[.agg #[.int .i64 0, .int .i64 0, .int .i64 0, .string ⟨#[]⟩, .string ⟨#[]⟩, .bool false, .int .i64 0, .int .i64 0, .int .i64 0, .int .i64 0, .int .i64 0, .int .i64 0, .int .i64 0], .int .i64 x]) ∧ Below W.heap.size W w' from fun W hW => by
            have hh := eparse_any (some ⟨h, 0, none⟩) n n ls W (HT.out W (HBv.out.trans (hW.mono HBv.out.size))).1 ⟨fun _ => ⟨_, _, rfl, ⟨(HX.out.row.below hW HX.out.row.lt).lt, fun j l hl => by
              rw [Nat.zero_add]
              refine (HX.out.row.below hW HX.out.row.lt).cell_ ?_
              rw [List.getElem?_toArray, strV, List.getElem?_map, hl]; rfl⟩⟩⟩ HX.out.len (fun l hl => by have := HX.out.small.2 l hl; omega) (by have := HX.out.small.1; omega)
            rw [HX.out.parse] at hh
            exact hh)
          have HE := Lib.hid (show Blk (wr.alloc (.cells #[.slice (some ⟨h, 0, none⟩) n n, .int .i64 x] 55)) wr.heap.size 55 #[.slice (some ⟨h, 0, none⟩) n n, .int .i64 x] ∧ Below wr.heap.size wr (wr.alloc (.cells #[.slice (some ⟨h, 0, none⟩) n n, .int .i64 x] 55)) from ⟨Blk.new' _ _ _ rfl, (Below.refl _ _).alloc (Nat.le_refl _) _⟩)
          go_wp2_with fail
          refine (HPa.out _ HE.out.2).mono ?_
          rintro e w6 ⟨rfl, hb6⟩
          have HE6 := Lib.hid (show Blk (w6.alloc (.cells #[.int .i64 0, .int .i64 0, .int .i64 0, .string ⟨#[]⟩, .string ⟨#[]⟩, .bool false, .int .i64 0, .int .i64 0, .int .i64 0, .int .i64 0, .int .i64 0, .int .i64 0, .int .i64 0] 31)) wr.heap.size 55 #[.slice (some ⟨h, 0, none⟩) n n, .int .i64 x] ∧ Below W1.heap.size W1 (w6.alloc (.cells #[.int .i64 0, .int .i64 0, .int .i64 0, .string ⟨#[]⟩, .string ⟨#[]⟩, .bool false, .int .i64 0, .int .i64 0, .int .i64 0, .int .i64 0, .int .i64 0, .int .i64 0, .int .i64 0] 31)) from ⟨(HE.out.1.below hb6 HE.out.1.lt).alloc _, rbelow_alloc (HI.out.trans ((HE.out.2.trans (hb6.mono HE.out.2.size)).mono HI.out.size)) _⟩)
          have d1 : w6.cell? ⟨wr.heap.size, 1, none⟩ = some (.int .i64 x) := (HE.out.1.below hb6 HE.out.1.lt).cell_ rfl
          have dl := (HE.out.1.below hb6 HE.out.1.lt).lt
          clear hb6 HE HPa c0 c1
          go_wp2_with fail
          go_roundw
          case rel => ((repeat apply Exists.intro); exact ⟨⟨k + 1, by omega, by go_num, Lib.hid HE6.out.2⟩, rfl⟩)
          case measure => simp [intOf]; omega
        · obtain rfl : k = 7 := by omega
          clear HI HB1 hlt hk
          go_wp2_with fail
          go_ret
          exact ⟨rfl, HBv.out⟩
end Go.Proofs.YtbdmieelokmhiaaGreatDoor
