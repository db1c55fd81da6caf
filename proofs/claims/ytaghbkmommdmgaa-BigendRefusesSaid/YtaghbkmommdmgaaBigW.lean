/-
  analemmalaw41.works: the examples of the chapter hold.
-/
import Derived.Test.YtaghbkmommdmgaaBigV
namespace Go.Proofs.Ytaghbkmommdmgaa
open Go.RowKit

set_option maxRecDepth 100000 in
set_option maxHeartbeats 1000000 in
theorem works_any (w : World) : Calls Try.prog 8 #[] w fun e w' => e = .returned (.bool true) ∧ Below w.heap.size w w' := by
  go_enter Try.func8, Try.ntmps8
  go_wp2_with fail
  go_loopw [26] (fun i wr => ∃ k : Nat, k ≤ 6 ∧ i = .int .i64 k ∧ Below w.heap.size w wr ∧ Tab1 wr w.heap.size) (fun i _ => 6 - (intOf i).toNat)
  case atStart => exact ⟨0, by omega, rfl, ((((Below.refl _ _).alloc (Nat.le_refl _) _).alloc (by simp) _).alloc (by simp; omega) _).alloc (by simp; omega) _, ⟨(((Blk.new' _ _ _ rfl).alloc _).alloc _).alloc _, (((Blk.new' _ _ _ (by simp)).alloc _).alloc _), ((Blk.new' _ _ _ (by simp)).alloc _), (Blk.new' _ _ _ (by simp))⟩⟩
  case round =>
    obtain ⟨k, hk, rfl, hb, hT⟩ := hrel
    by_cases hlt : k < 6
    · obtain ⟨s, n, A, l, c, er, xs, h0, h1, h2, h3, hr, hp⟩ := hT.row k hlt
      have HP := Lib.hid hp
      have HR := Lib.hid hr
      have HT := Lib.hid hT
      clear hp hr hT
      have hz := hb.size
      have r9 : Rd ((wr.alloc (.cells #[.int .i64 s, .int .i64 n, .slice A l c, .int .i64 er] 42)).alloc (.cells #[.int .u8 9] 5)) (some ⟨wr.heap.size + 1, 0, none⟩) 1 [9] := by
        simpa using rd_block (xs := [9]) (e := 5) (Blk.new (wr.alloc (.cells #[.int .i64 s, .int .i64 n, .slice A l c, .int .i64 er] 42)) 5 #[.int .u8 9])
      have R9 := Lib.hid r9
      clear r9
      go_wp2_with fail
      refine (put_any _ _ _ _ _ _ _ R9.out (by omega)).mono ?_
      rintro e w1 ⟨v, rfl, hown, hb1⟩
      rw [HP.out] at hown ⊢
      obtain ⟨A1, c1, rfl, _, hr1⟩ := own_slice hown
      have c2 : w1.cell? ⟨wr.heap.size, 2, none⟩ = some (.slice A l c) := (hb1.cell (by simp; omega)).trans (by simp)
      have c3 : w1.cell? ⟨wr.heap.size, 3, none⟩ = some (.int .i64 er) := (hb1.cell (by simp; omega)).trans (by simp)
      have hb2 : Below wr.heap.size wr w1 := (((Below.refl _ wr).alloc (Nat.le_refl _) _).alloc (by simp) _).trans (hb1.mono (by simp; omega))
      have HB2 := Lib.hid hb2
      have HR1 := Lib.hid hr1
      clear hb1 hb2 hown hr1 h0 h1 h2 h3
      go_wp2_with fail
      refine (equal_same _ _ _ _ _ _ _ _ HR1.out (Rd.below HR.out HB2.out)).mono ?_
      rintro e w2 ⟨rfl, rfl⟩
      go_wp2_with fail
      go_roundw
      case rel => exact ⟨k + 1, by omega, by go_num, hb.trans (HB2.out.mono hb.size), Tab1.below HT.out HB2.out⟩
      case measure => simp [intOf]; omega
    · clear hT
      have hd : decide ((k : Int) < 6) = false := by simp; omega
      obtain ⟨wo, rfl⟩ : ∃ wo : World, wo = wr := ⟨_, rfl⟩
      go_wp2_with fail
      go_loopw [57] (fun i wr => ∃ k : Nat, k ≤ 4 ∧ i = .int .i64 k ∧ Below w.heap.size w wr ∧ wo.heap.size < wr.heap.size ∧ Tab2 wr wo.heap.size) (fun i _ => 4 - (intOf i).toNat)
      case atStart => exact ⟨0, by omega, rfl, hb.alloc hb.size _, by simp, Blk.new' _ _ _ rfl⟩
      case round =>
        clear hb
        obtain ⟨k2, hk2, rfl, hb, hlo, hT⟩ := hrel
        by_cases hlt2 : k2 < 4
        · obtain ⟨a, s, n, er, h0, h1, h2, h3, hp⟩ := Tab2.row hT k2 hlt2
          have HP := Lib.hid hp
          have HT := Lib.hid hT
          clear hp hT
          have hz := hb.size
          have r9 : Rd ((wr.alloc (.cells #[.int .i64 a, .int .i64 s, .int .i64 n, .int .i64 er] 44)).alloc (.cells #[.int .u8 9, .int .u8 0, .int .u8 0, .int .u8 1, .int .u8 2] 5)) (some ⟨wr.heap.size + 1, 0, none⟩) 5 [9, 0, 0, 1, 2] := by
            simpa using rd_block (xs := [9, 0, 0, 1, 2]) (e := 5) (Blk.new (wr.alloc (.cells #[.int .i64 a, .int .i64 s, .int .i64 n, .int .i64 er] 44)) 5 #[.int .u8 9, .int .u8 0, .int .u8 0, .int .u8 1, .int .u8 2])
          have R9 := Lib.hid r9
          clear r9
          go_wp2_with fail
          refine (get_any _ _ _ _ _ _ _ R9.out (by omega) (by omega) (by decide)).mono ?_
          rintro e w1 ⟨rfl, hb1⟩
          rw [HP.out]
          have c2 : w1.cell? ⟨wr.heap.size, 2, none⟩ = some (.int .i64 n) := (hb1.cell (by simp; omega)).trans (by simp)
          have c3 : w1.cell? ⟨wr.heap.size, 3, none⟩ = some (.int .i64 er) := (hb1.cell (by simp; omega)).trans (by simp)
          have hb2 : Below wr.heap.size wr w1 := (((Below.refl _ wr).alloc (Nat.le_refl _) _).alloc (by simp) _).trans (hb1.mono (by simp; omega))
          have HB2 := Lib.hid hb2
          clear hb1 hb2 h0 h1 h2 h3
          go_wp2_with fail
          go_roundw
          case rel => exact ⟨k2 + 1, by omega, by go_num, hb.trans (HB2.out.mono hb.size), Nat.lt_of_lt_of_le hlo HB2.out.size, Blk.below HT.out HB2.out hlo⟩
          case measure => simp [intOf]; omega
        · clear hT
          have hd2 : decide ((k2 : Int) < 4) = false := by simp; omega
          obtain ⟨w3, rfl⟩ : ∃ w3 : World, w3 = wr := ⟨_, rfl⟩
          go_wp2_with fail
          go_loopw [89] (fun i wr => ∃ k : Nat, k ≤ 5 ∧ i = .int .i64 k ∧ Below w.heap.size w wr ∧ Tab3 wr w3.heap.size) (fun i _ => 5 - (intOf i).toNat)
          case atStart => exact ⟨0, by omega, rfl, (hb.alloc hb.size _).alloc (by simp; have := hb.size; omega) _, ⟨(Blk.new' _ _ _ rfl).alloc _, Blk.new' _ _ _ (by simp)⟩⟩
          case round =>
            clear hb
            obtain ⟨k3, hk3, rfl, hb, hT⟩ := hrel
            by_cases hlt3 : k3 < 5
            · obtain ⟨a, n, A, l, c, er, xs, h0, h1, h2, h3, hr, hp⟩ := hT.row k3 hlt3
              have HP := Lib.hid hp
              have HR := Lib.hid hr
              have HT := Lib.hid hT
              clear hp hr hT
              have hz := hb.size
              have r9 : Rd ((wr.alloc (.cells #[.int .i64 a, .int .i64 n, .slice A l c, .int .i64 er] 46)).alloc (.cells #[.int .u8 1, .int .u8 2, .int .u8 3] 5)) (some ⟨wr.heap.size + 1, 0, none⟩) 3 [1, 2, 3] := by
                simpa using rd_block (xs := [1, 2, 3]) (e := 5) (Blk.new (wr.alloc (.cells #[.int .i64 a, .int .i64 n, .slice A l c, .int .i64 er] 46)) 5 #[.int .u8 1, .int .u8 2, .int .u8 3])
              have R9 := Lib.hid r9
              clear r9
              go_wp2_with fail
              refine (bytes_any _ _ _ _ _ _ _ R9.out (by omega) (by omega)).mono ?_
              rintro e w1 ⟨v, rfl, hown, hb1⟩
              rw [HP.out] at hown ⊢
              obtain ⟨A1, c1, rfl, _, hr1⟩ := own_slice hown
              have c2 : w1.cell? ⟨wr.heap.size, 2, none⟩ = some (.slice A l c) := (hb1.cell (by simp; omega)).trans (by simp)
              have c3 : w1.cell? ⟨wr.heap.size, 3, none⟩ = some (.int .i64 er) := (hb1.cell (by simp; omega)).trans (by simp)
              have hb2 : Below wr.heap.size wr w1 := (((Below.refl _ wr).alloc (Nat.le_refl _) _).alloc (by simp) _).trans (hb1.mono (by simp; omega))
              have HB2 := Lib.hid hb2
              have HR1 := Lib.hid hr1
              clear hb1 hb2 hown hr1 h0 h1 h2 h3
              go_wp2_with fail
              refine (equal_same _ _ _ _ _ _ _ _ HR1.out (Rd.below HR.out HB2.out)).mono ?_
              rintro e w2 ⟨rfl, rfl⟩
              go_wp2_with fail
              go_roundw
              case rel => exact ⟨k3 + 1, by omega, by go_num, hb.trans (HB2.out.mono hb.size), Tab3.below HT.out HB2.out⟩
              case measure => simp [intOf]; omega
            · clear hT
              have hd3 : decide ((k3 : Int) < 5) = false := by simp; omega
              have r9 : Rd (wr.alloc (.cells #[.int .u8 255] 5)) (some ⟨wr.heap.size, 0, none⟩) 1 [255] := by
                simpa using rd_block (xs := [255]) (e := 5) (Blk.new wr 5 #[.int .u8 255])
              have R9 := Lib.hid r9
              clear r9
              go_wp2_with fail
              refine (get_any _ _ _ _ _ _ _ R9.out (by omega) (by omega) (by decide)).mono ?_
              rintro e w1 ⟨rfl, hb1⟩
              rw [show getR [255] 0 1 = (-1, 0) by decide +kernel]
              have HB := Lib.hid (show Below w.heap.size w w1 from (hb.alloc hb.size _).trans (hb1.mono (by have := hb.size; simp; omega)))
              clear hb1
              go_wp2_with fail
              go_ret
              exact ⟨rfl, HB.out⟩
end Go.Proofs.Ytaghbkmommdmgaa
