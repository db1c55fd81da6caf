/-
  PrinterTexts of the law of layer 14: what the call returns.
-/
import Derived.Test.YtmcgbjjcpcgcfaaGreatDoorPSamesL
import Derived.Test.YtmcgbjjcpcgcfaaGreatDoorRefText2
import Derived.Test.YtmcgbjjcpcgcfaaGreatDoorRefCopy
set_option linter.unusedVariables false
set_option linter.unusedSimpArgs false
namespace Go.Proofs.YtmcgbjjcpcgcfaaGreatDoor
open Go.RowKit Go.Shelf

theorem SrcSm.sz {s : SourceP} (h : SrcSm s) : SrcSz s :=
  ⟨fun r hr => ⟨Nat.le_trans (h.rules r hr).1 (by decide), Nat.le_trans (h.rules r hr).2 (by decide)⟩, fun z hz => ⟨Nat.le_trans (h.zones z hz).1 (by decide), fun e he => ⟨Nat.le_trans ((h.zones z hz).2.2 e he).1 (by decide), Nat.le_trans ((h.zones z hz).2.2 e he).2 (by decide)⟩⟩, fun l hl => ⟨Nat.le_trans (h.links l hl).1 (by decide), Nat.le_trans (h.links l hl).2 (by decide)⟩, fun x hx => Nat.le_trans (h.shifts x hx) (by decide)⟩
theorem r14copy_src {s : SourceP} {v : Value} {W : World} (h : SrcV s v W) (n : SrcLn s) : Calls Tryz.prog 10 #[v] W fun e w' => (∃ v', e = .returned v' ∧ SrcV s v' w') ∧ Below W.heap.size W w' := by
  obtain ⟨r, z, l, h, zs, rfl, k⟩ := h
  refine (r14copy_any _ _ _ _ _ _ _ k n).mono ?_
  rintro e w' ⟨⟨r', z', l', h', zs', rfl, k'⟩, hb⟩
  exact ⟨⟨_, rfl, r', z', l', h', zs', rfl, k'⟩, hb⟩
theorem r14print_src {s : SourceP} {v : Value} {W : World} (h : SrcV s v W) (n : SrcSz s) (hl : s.zones.length ≤ 1048576) : Calls Tryz.prog 12 #[v] W fun e w' => e = .returned (.tuple #[.string ⟨(srcPrintR s).1.toArray⟩, .int .i64 (srcPrintR s).2]) ∧ Below W.heap.size W w' := by
  obtain ⟨r, z, l, h, zs, rfl, k⟩ := h
  exact r14print_any _ _ _ _ _ _ _ k n hl
def T1 (w : World) (s : SourceP) (A : Array Value) (W : World) : Prop := Blk W w.heap.size 27 A ∧ SrcV s (.agg A) W ∧ Below w.heap.size w W
theorem T1.below {w W W' : World} {s : SourceP} {A : Array Value} (h : T1 w s A W) (hb : Below W.heap.size W W') : T1 w s A W' := ⟨h.1.below hb h.1.lt, h.2.1.below hb, h.2.2.trans (hb.mono h.2.2.size)⟩
def T2 (w : World) (s : SourceP) (A C : Array Value) (g : Nat) (W : World) : Prop := T1 w s A W ∧ Blk W g 27 C ∧ SrcV s (.agg C) W
theorem T2.below {w W W' : World} {s : SourceP} {A C : Array Value} {g : Nat} (h : T2 w s A C g W) (hb : Below W.heap.size W W') : T2 w s A C g W' := ⟨h.1.below hb, h.2.1.below hb h.2.1.lt, h.2.2.below hb⟩

set_option maxRecDepth 100000 in
set_option maxHeartbeats 2000000 in
theorem ptexts_any (va : Value) (s : SourceP) (w : World) (ha : SrcV s va w) (hT : ETabs w) (hR : RTabs w) :
    Calls Tryz.prog 3 #[va] w fun e w' => e = .returned (.bool true) ∧ Below w.heap.size w w' := by
  have HTT := Lib.hid (fun W (hW : Below w.heap.size w W) => And.intro (hT.below hW) (hR.below hW))
  have HW := Lib.hid (fun W (hW : Below w.heap.size w W) => pworks_any W (hT.below hW) (hR.below hW))
  obtain ⟨pa1, na1, ca1, pa2, na2, ca2, pa3, na3, ca3, pa4, na4, ca4, rfl⟩ := srcv_slices ha
  have hbA : Below w.heap.size w (w.alloc (.cells #[.slice pa1 na1 ca1, .slice pa2 na2 ca2, .slice pa3 na3 ca3, .slice pa4 na4 ca4] 27)) := (Below.refl _ _).alloc (Nat.le_refl _) _
  have HS := Lib.hid (show T1 w s #[.slice pa1 na1 ca1, .slice pa2 na2 ca2, .slice pa3 na3 ca3, .slice pa4 na4 ca4] (w.alloc (.cells #[.slice pa1 na1 ca1, .slice pa2 na2 ca2, .slice pa3 na3 ca3, .slice pa4 na4 ca4] 27)) from ⟨Blk.new' _ _ _ rfl, ha.below hbA, hbA⟩)
  have HFe := Lib.hid (few_src HS.out.2.1)
  clear ha hT hR hbA
  go_enter Tryz.func3, Tryz.ntmps3
  go_upto_region 1 with fail
  generalize w.alloc (.cells #[.slice pa1 na1 ca1, .slice pa2 na2 ca2, .slice pa3 na3 ca3, .slice pa4 na4 ca4] 27) = w0 at *
  have a0 := HS.out.1.cell_ (i := 0) rfl
  have a1 := HS.out.1.cell_ (i := 1) rfl
  have a2 := HS.out.1.cell_ (i := 2) rfl
  have a3 := HS.out.1.cell_ (i := 3) rfl
  go_wp2_with fail
  refine HFe.out.mono ?_
  rintro e w1 ⟨⟨b, rfl, hb1⟩, hbl⟩
  have HS1 := Lib.hid (HS.out.below hbl)
  have HB1 := Lib.hid hb1
  clear hbl a0 a1 a2 a3 HS HFe hb1
  cases b with
  | false =>
    go_wp2_with fail
    refine (HW.out _ HS1.out.2.2).mono ?_
    rintro e w2 ⟨rfl, hbl⟩
    have HS2 := Lib.hid (HS1.out.below hbl)
    clear hbl
    go_wp2_with fail
    go_ret
    exact ⟨rfl, HS2.out.2.2⟩
  | true =>
    have HL := Lib.hid (HB1.out (by trivial)).ln
    have HZ := Lib.hid (HB1.out (by trivial)).sz
    clear HB1
    have a0 := HS1.out.1.cell_ (i := 0) rfl
    have a1 := HS1.out.1.cell_ (i := 1) rfl
    have a2 := HS1.out.1.cell_ (i := 2) rfl
    have a3 := HS1.out.1.cell_ (i := 3) rfl
    have HC2 := Lib.hid (r14copy_src HS1.out.2.1 HL.out)
    go_wp2_with fail
    refine HC2.out.mono ?_
    rintro e w3 ⟨⟨v3, rfl, hk3⟩, hbl⟩
    obtain ⟨pc1, nc1, cc1, pc2, nc2, cc2, pc3, nc3, cc3, pc4, nc4, cc4, rfl⟩ := srcv_slices hk3
    have hbC : Below w3.heap.size w3 (w3.alloc (.cells #[.slice pc1 nc1 cc1, .slice pc2 nc2 cc2, .slice pc3 nc3 cc3, .slice pc4 nc4 cc4] 27)) := (Below.refl _ _).alloc (Nat.le_refl _) _
    have HS4 := Lib.hid (show T2 w s #[.slice pa1 na1 ca1, .slice pa2 na2 ca2, .slice pa3 na3 ca3, .slice pa4 na4 ca4] #[.slice pc1 nc1 cc1, .slice pc2 nc2 cc2, .slice pc3 nc3 cc3, .slice pc4 nc4 cc4] w3.heap.size (w3.alloc (.cells #[.slice pc1 nc1 cc1, .slice pc2 nc2 cc2, .slice pc3 nc3 cc3, .slice pc4 nc4 cc4] 27)) from ⟨(HS1.out.below hbl).below hbC, Blk.new' _ _ _ rfl, hk3.below hbC⟩)
    clear hbl hbC hk3 HS1 HC2 a0 a1 a2 a3
    go_upto_region 4 with fail
    generalize w3.alloc (.cells #[.slice pc1 nc1 cc1, .slice pc2 nc2 cc2, .slice pc3 nc3 cc3, .slice pc4 nc4 cc4] 27) = w4 at *
    generalize w3.heap.size = g at *
    have a0 := HS4.out.1.1.cell_ (i := 0) rfl
    have a1 := HS4.out.1.1.cell_ (i := 1) rfl
    have a2 := HS4.out.1.1.cell_ (i := 2) rfl
    have a3 := HS4.out.1.1.cell_ (i := 3) rfl
    obtain ⟨R, hRR⟩ : ∃ R, srcPrintR s = R := ⟨_, rfl⟩
    obtain ⟨R1, R2⟩ := R
    obtain ⟨Q, hQ⟩ : ∃ Q : ByteArray, (⟨R1.toArray⟩ : ByteArray) = Q := ⟨_, rfl⟩
    have HP := Lib.hid (show ∀ W, T2 w s #[.slice pa1 na1 ca1, .slice pa2 na2 ca2, .slice pa3 na3 ca3, .slice pa4 na4 ca4] #[.slice pc1 nc1 cc1, .slice pc2 nc2 cc2, .slice pc3 nc3 cc3, .slice pc4 nc4 cc4] g W → Calls Tryz.prog 11 #[.agg #[.slice pa1 na1 ca1, .slice pa2 na2 ca2, .slice pa3 na3 ca3, .slice pa4 na4 ca4]] W fun e w' => e = .returned (.tuple #[.string Q, .int .i64 R2]) ∧ Below W.heap.size W w' from fun W h => by
      have := print_src h.1.2.1 (HTT.out W h.1.2.2).1 (HTT.out W h.1.2.2).2 HZ.out
      rw [hRR] at this
      simp only [hQ] at this
      exact this)
    have HRP := Lib.hid (show ∀ W, T2 w s #[.slice pa1 na1 ca1, .slice pa2 na2 ca2, .slice pa3 na3 ca3, .slice pa4 na4 ca4] #[.slice pc1 nc1 cc1, .slice pc2 nc2 cc2, .slice pc3 nc3 cc3, .slice pc4 nc4 cc4] g W → Calls Tryz.prog 12 #[.agg #[.slice pa1 na1 ca1, .slice pa2 na2 ca2, .slice pa3 na3 ca3, .slice pa4 na4 ca4]] W fun e w' => e = .returned (.tuple #[.string Q, .int .i64 R2]) ∧ Below W.heap.size W w' from fun W h => by
      have := r14print_src h.1.2.1 HZ.out HL.out.zones
      rw [hRR] at this
      simp only [hQ] at this
      exact this)
    have HRS := Lib.hid (show ∀ W, T2 w s #[.slice pa1 na1 ca1, .slice pa2 na2 ca2, .slice pa3 na3 ca3, .slice pa4 na4 ca4] #[.slice pc1 nc1 cc1, .slice pc2 nc2 cc2, .slice pc3 nc3 cc3, .slice pc4 nc4 cc4] g W → Calls Tryz.prog 13 #[.agg #[.slice pa1 na1 ca1, .slice pa2 na2 ca2, .slice pa3 na3 ca3, .slice pa4 na4 ca4], .agg #[.slice pc1 nc1 cc1, .slice pc2 nc2 cc2, .slice pc3 nc3 cc3, .slice pc4 nc4 cc4]] W fun e w' => e = .returned (.bool true) ∧ Below W.heap.size W w' from fun W h => by
      have := r14same_src h.1.2.1 h.2.2 HL.out HL.out
      rwa [decide_eq_true rfl] at this)
    clear hRR hQ HZ HL HTT
    go_wp2_with fail
    refine (HP.out _ HS4.out).mono ?_
    rintro e w5 ⟨rfl, hbl⟩
    have HS5 := Lib.hid (HS4.out.below hbl)
    clear hbl HS4 HP a0 a1 a2 a3
    have a0 := HS5.out.1.1.cell_ (i := 0) rfl
    have a1 := HS5.out.1.1.cell_ (i := 1) rfl
    have a2 := HS5.out.1.1.cell_ (i := 2) rfl
    have a3 := HS5.out.1.1.cell_ (i := 3) rfl
    go_wp2_with fail
    refine (HRP.out _ HS5.out).mono ?_
    rintro e w6 ⟨rfl, hbl⟩
    have HS6 := Lib.hid (HS5.out.below hbl)
    clear hbl HS5 HRP a0 a1 a2 a3
    have a0 := HS6.out.1.1.cell_ (i := 0) rfl
    have a1 := HS6.out.1.1.cell_ (i := 1) rfl
    have a2 := HS6.out.1.1.cell_ (i := 2) rfl
    have a3 := HS6.out.1.1.cell_ (i := 3) rfl
    have b0 := HS6.out.2.1.cell_ (i := 0) rfl
    have b1 := HS6.out.2.1.cell_ (i := 1) rfl
    have b2 := HS6.out.2.1.cell_ (i := 2) rfl
    have b3 := HS6.out.2.1.cell_ (i := 3) rfl
    go_wp2_with fail
    refine (HRS.out _ HS6.out).mono ?_
    rintro e w7 ⟨rfl, hbl⟩
    have HS7 := Lib.hid (HS6.out.below hbl)
    clear hbl HS6 HRS a0 a1 a2 a3 b0 b1 b2 b3
    go_wp2_with fail
    refine (HW.out _ HS7.out.1.2.2).mono ?_
    rintro e w8 ⟨rfl, hbl⟩
    have HS8 := Lib.hid (HS7.out.below hbl)
    clear hbl
    go_wp2_with fail
    go_ret
    exact ⟨rfl, HS8.out.1.2.2⟩
end Go.Proofs.YtmcgbjjcpcgcfaaGreatDoor
