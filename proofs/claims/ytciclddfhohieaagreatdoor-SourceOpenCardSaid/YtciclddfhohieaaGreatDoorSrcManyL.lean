/-
  SourceMany holds.
-/
import Derived.Test.YtciclddfhohieaaGreatDoorSrcWork
import Derived.Test.YtciclddfhohieaaGreatDoorSrcMFact
import Derived.Test.YtciclddfhohieaaGreatDoorShelf4
import Derived.Shelf.Strings.Repeat
set_option linter.unusedVariables false
set_option linter.unusedSimpArgs false
namespace Go.Proofs.YtciclddfhohieaaGreatDoor
open Go.RowKit Go.Shelf

theorem repl_any (x : List UInt8) (lim : Nat) (w : World) (hx : x.length ≤ 50) (hl : lim ≤ 2001) : Calls Tryz.prog 13 #[.string ⟨(x ++ [10]).toArray⟩, .int .i64 (lim : Int)] w fun e w' => e = .returned (.string ⟨(linesT (List.replicate lim x)).toArray⟩) ∧ Below w.heap.size w w' := by
  have h := Any.strings_Repeat Tryz.lays105 Tryz.Builder_Extra_105 ⟨(x ++ [10]).toArray⟩ lim w (by omega) (by
    have h1 : (⟨(x ++ [10]).toArray⟩ : ByteArray).size = x.length + 1 := by simp [ByteArray.size]
    rw [h1]
    have : (x.length + 1) * lim ≤ 51 * 2001 := Nat.mul_le_mul (by omega) hl
    omega)
  refine h.mono ?_
  rintro e w' ⟨rfl, hb⟩
  exact ⟨by rw [← repeat_lines], hb⟩
theorem SrcLens {w : World} {n : Nat} {u1 u2 u3 u4 : Value} {zs : List (ZoneP × Value)} {l : SourceP} {lim : Nat} (h : SrcIs w n u1 u2 u3 u4 zs l) (hs : l.rules.length + l.zones.length + l.links.length + l.shifts.length = lim) : ∃ q1 d1 n1 q2 d2 n2 q3 d3 n3 q4 d4 n4, u1 = .slice q1 n1 d1 ∧ u2 = .slice q2 n2 d2 ∧ u3 = .slice q3 n3 d3 ∧ u4 = .slice q4 n4 d4 ∧ n1 + n2 + n3 + n4 = lim := by
  obtain ⟨q1, d1, q2, d2, q3, d3, q4, d4, e1, e2, e3, e4⟩ := src_form h
  exact ⟨q1, d1, _, q2, d2, _, q3, d3, _, q4, d4, _, e1, e2, e3, e4, hs⟩
def manyT : List (List UInt8 × Nat) := [(lnR, 2000), (lnZ, 500), (lnL, 1000), (lnS, 2000)]
theorem manyT_at : ∀ (k : Nat) (q : List UInt8 × Nat), manyT[k]? = some q → ManyAt q.1 q.2 ∧ q.1.length ≤ 50 ∧ q.2 ≤ 2000
  | 0, q, h => by cases h; exact ⟨many_R, by decide, by decide⟩
  | 1, q, h => by cases h; exact ⟨many_Z, by decide, by decide⟩
  | 2, q, h => by cases h; exact ⟨many_L, by decide, by decide⟩
  | 3, q, h => by cases h; exact ⟨many_S, by decide, by decide⟩
  | k + 4, q, h => by simp [manyT] at h
set_option maxRecDepth 100000 in
set_option maxHeartbeats 1000000 in
theorem sourceMany_any (w : World) (hW : SW w) : Calls Tryz.prog 5 #[] w fun e w' => e = .returned (.bool true) ∧ Below w.heap.size w w' := by
  have HW := Lib.hid hW
  clear hW
  have HT := Lib.hid (show Below w.heap.size w (w.alloc (.cells #[.string ⟨#[82, 117, 108, 101, 32, 82, 32, 49, 57, 57, 48, 32, 111, 110, 108, 121, 32, 45, 32, 74, 97, 110, 32, 49, 32, 48, 58, 48, 48, 32, 48, 32, 45, 10]⟩, .int .i64 2000, .string ⟨#[90, 111, 110, 101, 32, 90, 32, 48, 58, 48, 48, 32, 45, 32, 71, 77, 84, 10]⟩, .int .i64 500, .string ⟨#[76, 105, 110, 107, 32, 90, 32, 89, 10]⟩, .int .i64 1000, .string ⟨#[83, 104, 105, 102, 116, 32, 82, 10]⟩, .int .i64 2000] 54)) ∧ (∀ k q, manyT[k]? = some q → (w.alloc (.cells #[.string ⟨#[82, 117, 108, 101, 32, 82, 32, 49, 57, 57, 48, 32, 111, 110, 108, 121, 32, 45, 32, 74, 97, 110, 32, 49, 32, 48, 58, 48, 48, 32, 48, 32, 45, 10]⟩, .int .i64 2000, .string ⟨#[90, 111, 110, 101, 32, 90, 32, 48, 58, 48, 48, 32, 45, 32, 71, 77, 84, 10]⟩, .int .i64 500, .string ⟨#[76, 105, 110, 107, 32, 90, 32, 89, 10]⟩, .int .i64 1000, .string ⟨#[83, 104, 105, 102, 116, 32, 82, 10]⟩, .int .i64 2000] 54)).rangeAt w.heap.size (k * 2) [.string ⟨(q.1 ++ [10]).toArray⟩, .int .i64 (q.2 : Int)]) ∧ w.heap.size < (w.alloc (.cells #[.string ⟨#[82, 117, 108, 101, 32, 82, 32, 49, 57, 57, 48, 32, 111, 110, 108, 121, 32, 45, 32, 74, 97, 110, 32, 49, 32, 48, 58, 48, 48, 32, 48, 32, 45, 10]⟩, .int .i64 2000, .string ⟨#[90, 111, 110, 101, 32, 90, 32, 48, 58, 48, 48, 32, 45, 32, 71, 77, 84, 10]⟩, .int .i64 500, .string ⟨#[76, 105, 110, 107, 32, 90, 32, 89, 10]⟩, .int .i64 1000, .string ⟨#[83, 104, 105, 102, 116, 32, 82, 10]⟩, .int .i64 2000] 54)).heap.size from ⟨(Below.refl _ _).alloc (Nat.le_refl _) _, fun k q hq j v hv => by
    have hb : Blk (w.alloc (.cells #[.string ⟨#[82, 117, 108, 101, 32, 82, 32, 49, 57, 57, 48, 32, 111, 110, 108, 121, 32, 45, 32, 74, 97, 110, 32, 49, 32, 48, 58, 48, 48, 32, 48, 32, 45, 10]⟩, .int .i64 2000, .string ⟨#[90, 111, 110, 101, 32, 90, 32, 48, 58, 48, 48, 32, 45, 32, 71, 77, 84, 10]⟩, .int .i64 500, .string ⟨#[76, 105, 110, 107, 32, 90, 32, 89, 10]⟩, .int .i64 1000, .string ⟨#[83, 104, 105, 102, 116, 32, 82, 10]⟩, .int .i64 2000] 54)) w.heap.size 54 #[.string ⟨#[82, 117, 108, 101, 32, 82, 32, 49, 57, 57, 48, 32, 111, 110, 108, 121, 32, 45, 32, 74, 97, 110, 32, 49, 32, 48, 58, 48, 48, 32, 48, 32, 45, 10]⟩, .int .i64 2000, .string ⟨#[90, 111, 110, 101, 32, 90, 32, 48, 58, 48, 48, 32, 45, 32, 71, 77, 84, 10]⟩, .int .i64 500, .string ⟨#[76, 105, 110, 107, 32, 90, 32, 89, 10]⟩, .int .i64 1000, .string ⟨#[83, 104, 105, 102, 116, 32, 82, 10]⟩, .int .i64 2000] := Blk.new' _ _ _ rfl
    match k, hq with
    | 0, hq =>
      cases hq
      match j, hv with
      | 0, hv => cases hv; exact hb.cell_ (i := 0) rfl
      | 1, hv => cases hv; exact hb.cell_ (i := 1) rfl
      | j + 2, hv => simp at hv
    | 1, hq =>
      cases hq
      match j, hv with
      | 0, hv => cases hv; exact hb.cell_ (i := 2) rfl
      | 1, hv => cases hv; exact hb.cell_ (i := 3) rfl
      | j + 2, hv => simp at hv
    | 2, hq =>
      cases hq
      match j, hv with
      | 0, hv => cases hv; exact hb.cell_ (i := 4) rfl
      | 1, hv => cases hv; exact hb.cell_ (i := 5) rfl
      | j + 2, hv => simp at hv
    | 3, hq =>
      cases hq
      match j, hv with
      | 0, hv => cases hv; exact hb.cell_ (i := 6) rfl
      | 1, hv => cases hv; exact hb.cell_ (i := 7) rfl
      | j + 2, hv => simp at hv
    | k + 4, hq => simp [manyT] at hq, by simp⟩)
  go_enter Tryz.func5, Tryz.ntmps5
  go_upto_region 2 with fail
  generalize (w.alloc (.cells #[.string ⟨#[82, 117, 108, 101, 32, 82, 32, 49, 57, 57, 48, 32, 111, 110, 108, 121, 32, 45, 32, 74, 97, 110, 32, 49, 32, 48, 58, 48, 48, 32, 48, 32, 45, 10]⟩, .int .i64 2000, .string ⟨#[90, 111, 110, 101, 32, 90, 32, 48, 58, 48, 48, 32, 45, 32, 71, 77, 84, 10]⟩, .int .i64 500, .string ⟨#[76, 105, 110, 107, 32, 90, 32, 89, 10]⟩, .int .i64 1000, .string ⟨#[83, 104, 105, 102, 116, 32, 82, 10]⟩, .int .i64 2000] 54)) = wt at *
  obtain ⟨g, hg⟩ : ∃ g, w.heap.size = g := ⟨_, rfl⟩
  have HG := Lib.hid hg
  rw [hg] at HT ⊢
  clear hg
  go_loopw [13] (fun iv wr => ∃ k : Nat, k ≤ 4 ∧ iv = .int .i64 (k : Int) ∧ Hid (Below wt.heap.size wt wr)) (fun iv _ => 4 - (intOf iv).toNat)
  case atStart => exact ⟨0, by omega, rfl, Lib.hid (Below.refl _ _)⟩
  case round =>
    obtain ⟨k, hk, rfl, HB⟩ := hrel
    by_cases hlt : k < 4
    · obtain ⟨⟨x, lim⟩, hq⟩ : ∃ q, manyT[k]? = some q := ⟨_, List.getElem?_eq_getElem (by simpa [manyT] using hlt)⟩
      obtain ⟨⟨⟨src, ln, hf, hsum⟩, hov⟩, hxl, hlm⟩ := manyT_at k _ hq
      simp only at hf hsum hov hxl hlm
      have HC := Lib.hid (show wr.rangeAt g (k * 2) [.string ⟨(x ++ [10]).toArray⟩, .int .i64 (lim : Int)] from fun j v hv => (HB.out.cell (p := ⟨g, k * 2 + j, none⟩) HT.out.2.2).trans (HT.out.2.1 k _ hq j v hv))
      have hd : decide ((k : Int) < 4) = true := by simp; omega
      have hbw : Below g w wr := by have := HT.out.1.trans (HB.out.mono (by have := HT.out.2.2; omega)); exact this
      have hwa : Below wr.heap.size wr (wr.alloc (.cells #[.string ⟨(x ++ [10]).toArray⟩, .int .i64 (lim : Int)] 54)) := (Below.refl _ _).alloc (Nat.le_refl _) _
      have HA := Lib.hid (show Blk (wr.alloc (.cells #[.string ⟨(x ++ [10]).toArray⟩, .int .i64 (lim : Int)] 54)) wr.heap.size 54 #[.string ⟨(x ++ [10]).toArray⟩, .int .i64 (lim : Int)] ∧ Below wt.heap.size wt (wr.alloc (.cells #[.string ⟨(x ++ [10]).toArray⟩, .int .i64 (lim : Int)] 54)) from ⟨Blk.new' _ _ _ rfl, HB.out.trans (hwa.mono HB.out.size)⟩)
      have HTW := Lib.hid (fun W (hB : Below wt.heap.size wt W) => show SW W from HW.out.below (by rw [HG.out]; exact HT.out.1.trans (hB.mono (by have := HT.out.2.2; omega))))
      clear hwa hbw HB hq
      go_upto_region 4 with (first | (refine wpList_load_arr rfl 54 (.tmp 15) rfl g (k * 2) rfl #[.string ⟨(x ++ [10]).toArray⟩, .int .i64 (lim : Int)] _ HC.out Tryz.underlying54 rfl (by kernel_rfl) ?_) | fail)
      generalize wr.alloc (.cells #[.string ⟨(x ++ [10]).toArray⟩, .int .i64 (lim : Int)] 54) = wa at *
      generalize wr.heap.size = A at *
      obtain ⟨tx, htx⟩ : ∃ tx, linesT (List.replicate lim x) = tx := ⟨_, rfl⟩
      have htl : tx.length ≤ 200000 := by
        have h1 : lim * (x.length + 1) ≤ 2000 * 51 := Nat.mul_le_mul hlm (by omega)
        rw [← htx, linesT_rep]
        omega
      have HRp := Lib.hid (repl_any x lim wa hxl (by omega))
      rw [htx] at HRp hf
      have s0 := HA.out.1.cell_ (i := 0) rfl
      have s1 := HA.out.1.cell_ (i := 1) rfl
      have HOV := Lib.hid (show srcR (tx ++ (x ++ [10])) = ((SourceP.none, LinesP.none), (lim : Int) + 1, 7) from by rw [← htx, lines_more]; exact hov)
      have HFU := Lib.hid hf
      clear hf hov htx
      go_wp2_with fail
      refine HRp.out.mono ?_
      rintro e1 w1 ⟨rfl, hb1⟩
      have hb1' := HA.out.2.trans (hb1.mono HA.out.2.size)
      have HPk := Lib.hid (parse_ok ⟨tx.toArray⟩ w1 (HTW.out w1 hb1') (by simp [ByteArray.size]; omega) (src := src) (ln := ln) HFU.out)
      have HA1 := Lib.hid (show Blk w1 A 54 #[.string ⟨(x ++ [10]).toArray⟩, .int .i64 (lim : Int)] ∧ Below wt.heap.size wt w1 from ⟨HA.out.1.below hb1 HA.out.1.lt, hb1'⟩)
      clear s0 s1 hb1 hb1' HRp HA
      go_wp2_with fail
      refine HPk.out.mono ?_
      rintro e2 w2 ⟨⟨B1, st1, cur1, el1, ⟨v1, v2, v3, v4, u1, u2, u3, u4⟩, rfl, hr1, hst, hln⟩, hb2⟩
      have hs1 := hr1.src
      rw [hst] at hs1
      obtain ⟨q1, d1, n1, q2, d2, n2, q3, d3, n3, q4, d4, n4, e1, e2, e3, e4, hsn⟩ := SrcLens hs1 hsum
      obtain ⟨q5, d5, q6, d6, q7, d7, q8, d8, e5, e6, e7, e8⟩ := ln_form hr1.ln
      replace e1 : v1 = .slice q1 n1 d1 := e1
      replace e2 : v2 = .slice q2 n2 d2 := e2
      replace e3 : v3 = .slice q3 n3 d3 := e3
      replace e4 : v4 = .slice q4 n4 d4 := e4
      replace e5 : u1 = .slice q5 st1.l.rules.length d5 := e5
      replace e6 : u2 = .slice q6 st1.l.eras.length d6 := e6
      replace e7 : u3 = .slice q7 st1.l.links.length d7 := e7
      replace e8 : u4 = .slice q8 st1.l.shifts.length d8 := e8
      clear hr1 hs1 hst hln hsum
      subst e1 e2 e3 e4 e5 e6 e7 e8
      generalize st1.l.rules.length = n5 at *
      generalize st1.l.eras.length = n6 at *
      generalize st1.l.links.length = n7 at *
      generalize st1.l.shifts.length = n8 at *
      simp only
      have hba : Below w2.heap.size w2 ((w2.alloc (.cells #[.slice q1 n1 d1, .slice q2 n2 d2, .slice q3 n3 d3, .slice q4 n4 d4] 28)).alloc (.cells #[.slice q5 n5 d5, .slice q6 n6 d6, .slice q7 n7 d7, .slice q8 n8 d8] 32)) := ((Below.refl _ _).alloc (Nat.le_refl _) _).alloc (by simp) _
      have hbc := hb2.trans (hba.mono hb2.size)
      have HA2 := Lib.hid (show Blk ((w2.alloc (.cells #[.slice q1 n1 d1, .slice q2 n2 d2, .slice q3 n3 d3, .slice q4 n4 d4] 28)).alloc (.cells #[.slice q5 n5 d5, .slice q6 n6 d6, .slice q7 n7 d7, .slice q8 n8 d8] 32)) A 54 #[.string ⟨(x ++ [10]).toArray⟩, .int .i64 (lim : Int)] ∧ Below wt.heap.size wt ((w2.alloc (.cells #[.slice q1 n1 d1, .slice q2 n2 d2, .slice q3 n3 d3, .slice q4 n4 d4] 28)).alloc (.cells #[.slice q5 n5 d5, .slice q6 n6 d6, .slice q7 n7 d7, .slice q8 n8 d8] 32)) ∧ Blk ((w2.alloc (.cells #[.slice q1 n1 d1, .slice q2 n2 d2, .slice q3 n3 d3, .slice q4 n4 d4] 28)).alloc (.cells #[.slice q5 n5 d5, .slice q6 n6 d6, .slice q7 n7 d7, .slice q8 n8 d8] 32)) w2.heap.size 28 #[.slice q1 n1 d1, .slice q2 n2 d2, .slice q3 n3 d3, .slice q4 n4 d4] from ⟨HA1.out.1.below hbc HA1.out.1.lt, HA1.out.2.trans (hbc.mono HA1.out.2.size), (Blk.new' _ _ _ rfl).alloc _⟩)
      clear hba hbc hb2 HA1 HPk HFU
      go_upto_region 6 with fail
      generalize ((w2.alloc (.cells #[.slice q1 n1 d1, .slice q2 n2 d2, .slice q3 n3 d3, .slice q4 n4 d4] 28)).alloc (.cells #[.slice q5 n5 d5, .slice q6 n6 d6, .slice q7 n7 d7, .slice q8 n8 d8] 32)) = wp at *
      generalize w2.heap.size = C at *
      have s0 := HA2.out.1.cell_ (i := 0) rfl
      have s1 := HA2.out.1.cell_ (i := 1) rfl
      have p0 := HA2.out.2.2.cell_ (i := 0) rfl
      have p1 := HA2.out.2.2.cell_ (i := 1) rfl
      have p2 := HA2.out.2.2.cell_ (i := 2) rfl
      have p3 := HA2.out.2.2.cell_ (i := 3) rfl
      have hw1 : IntKind.i64.wrap ((n1 : Int) + (n2 : Int)) = (n1 : Int) + (n2 : Int) := IntWalk.i64_in _ (by omega)
      have hw2 : IntKind.i64.wrap ((n1 : Int) + (n2 : Int) + (n3 : Int)) = (n1 : Int) + (n2 : Int) + (n3 : Int) := IntWalk.i64_in _ (by omega)
      have hw3 : IntKind.i64.wrap ((n1 : Int) + (n2 : Int) + (n3 : Int) + (n4 : Int)) = (n1 : Int) + (n2 : Int) + (n3 : Int) + (n4 : Int) := IntWalk.i64_in _ (by omega)
      have hsm : ((n1 : Int) + (n2 : Int) + (n3 : Int) + (n4 : Int) != (lim : Int)) = false := by rw [bne_eq_false_iff_eq]; omega
      have hwl : IntKind.i64.wrap ((lim : Int) + 1) = (lim : Int) + 1 := IntWalk.i64_in _ (by omega)
      have HRf := Lib.hid (refused_any (⟨tx.toArray⟩ ++ ⟨(x ++ [10]).toArray⟩) ((lim : Int) + 1) 7 wp (HTW.out wp HA2.out.2.1) (by simp [ByteArray.size_append, ByteArray.size]; omega) (by have h := HOV.out; simpa [ByteArray.data_append] using h) (by decide))
      go_wp2_with fail
      refine HRf.out.mono ?_
      rintro e3 w3 ⟨rfl, hb3⟩
      have HB3 := Lib.hid (HA2.out.2.1.trans (hb3.mono HA2.out.2.1.size))
      clear hb3 HRf HA2 s0 s1 p0 p1 p2 p3 hw1 hw2 hw3 hsm hwl hsn HOV
      go_wp2_with fail
      go_roundw
      case rel => exact ⟨k + 1, by omega, by go_num, HB3⟩
      case measure => simp [intOf]; omega
    · obtain rfl : k = 4 := by omega
      have HWk := Lib.hid (works_any wr (HW.out.below (by rw [HG.out]; exact HT.out.1.trans (HB.out.mono (by have := HT.out.2.2; omega)))))
      have HBw := Lib.hid (show Below g w wr from HT.out.1.trans (HB.out.mono (by have := HT.out.2.2; omega)))
      clear HB HT hlt hk
      go_wp2_with fail
      refine HWk.out.mono ?_
      rintro e1 w1 ⟨rfl, hb1⟩
      have HBf := Lib.hid (show Below w.heap.size w w1 from by rw [HG.out]; exact HBw.out.trans (hb1.mono (by have := HBw.out.size; have := HG.out; omega)))
      clear hb1
      go_wp2_with fail
      go_ret
      exact ⟨rfl, by have h := HBf.out; rwa [HG.out] at h⟩
end Go.Proofs.YtciclddfhohieaaGreatDoor
