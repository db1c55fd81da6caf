/-
  SourceOpen holds.
-/
import Derived.Test.YtciclddfhohieaaGreatDoorSrcWork
import Derived.Test.YtciclddfhohieaaGreatDoorSrcOFact
import Derived.Test.YtciclddfhohieaaGreatDoorSrcManyL
set_option linter.unusedVariables false
set_option linter.unusedSimpArgs false
namespace Go.Proofs.YtciclddfhohieaaGreatDoor
open Go.RowKit Go.Shelf

theorem bappO (a b : List UInt8) : (⟨a.toArray⟩ : ByteArray) ++ ⟨b.toArray⟩ = ⟨(a ++ b).toArray⟩ := by
  apply ByteArray.ext
  simp [ByteArray.data_append]
theorem open_src {w : World} {n m : Nat} {v1 v2 v3 v4 : Value} {zs : List (ZoneP × Value)} {s : SourceP} {nm : List UInt8} {es : List EraP} (h : SrcIs w n v1 v2 v3 v4 zs s) (hz : s.zones = [⟨nm, es⟩]) (he : es.length = m) (hl : s.links.length = 1) :
    ∃ p1 n1 c1 bz oz cz pe ce p3 c3 p4 n4 c4, v1 = .slice p1 n1 c1 ∧ v2 = .slice (some ⟨bz, oz, none⟩) 1 cz ∧ v3 = .slice p3 1 c3 ∧ v4 = .slice p4 n4 c4 ∧ w.cell? ⟨bz, oz + 1, none⟩ = some (.slice pe m ce) ∧ bz < n := by
  obtain ⟨p1, c1, e1⟩ := h.1.slice
  obtain ⟨p3, c3, e3⟩ := h.2.2.2.2.1.slice
  obtain ⟨p4, c4, e4⟩ := h.2.2.2.2.2.slice
  obtain ⟨⟨z2, ev⟩, hzs⟩ : ∃ q, zs = [q] := by
    have hl : zs.length = 1 := by have := congrArg List.length h.2.2.1; rw [hz] at this; simpa using this
    match zs, hl with
    | [q], _ => exact ⟨q, rfl⟩
  have hzz : z2 = ⟨nm, es⟩ := by have := h.2.2.1; rw [hzs, hz] at this; simpa using this
  obtain ⟨bz, oz, cz, e2, hbz, hcz⟩ := h.2.1.at_ (by rw [hzs]; simp)
  obtain ⟨pe, ce, e5⟩ := (h.2.2.2.1 (z2, ev) (by rw [hzs]; simp)).slice
  have q1 := hcz 0 (z2, ev) (by rw [hzs]; rfl) 1 ev rfl
  rw [hzs] at e2
  rw [hl] at e3
  replace e5 : ev = .slice pe z2.eras.length ce := e5
  rw [hzz] at e5
  replace e5 : ev = .slice pe es.length ce := e5
  rw [he] at e5
  subst e5
  exact ⟨p1, _, c1, bz, oz, cz, pe, ce, p3, c3, p4, _, c4, e1, e2, e3, e4, by simpa using q1, hbz⟩
theorem open_ln {w : World} {n j m : Nat} {x : Int} {u1 u2 u3 u4 : Value} {el : List IV} {s : LinesP} {l : List Int} (h : LnIs w n u1 u2 u3 u4 el s) (hz : s.eras = [l]) (hl : l.length = m) (hx : l[j]? = some x) :
    ∃ p1 n1 c1 be oe ce bi oi ci p3 n3 c3 p4 n4 c4, u1 = .slice p1 n1 c1 ∧ u2 = .slice (some ⟨be, oe, none⟩) 1 ce ∧ u3 = .slice p3 n3 c3 ∧ u4 = .slice p4 n4 c4 ∧ w.cell? ⟨be, oe, none⟩ = some (.slice (some ⟨bi, oi, none⟩) m ci) ∧ w.cell? ⟨bi, oi + j, none⟩ = some (.int .i64 x) ∧ be < n ∧ bi < n := by
  obtain ⟨p1, c1, e1⟩ := h.1.slice
  obtain ⟨p3, c3, e3⟩ := h.2.2.2.2.1.slice
  obtain ⟨p4, c4, e4⟩ := h.2.2.2.2.2.slice
  obtain ⟨⟨ev, l2⟩, hel⟩ : ∃ q, el = [q] := by
    have hl : el.length = 1 := by have := congrArg List.length h.2.2.1; rw [hz] at this; simpa using this
    match el, hl with
    | [q], _ => exact ⟨q, rfl⟩
  have hll : l2 = l := by have := h.2.2.1; rw [hel, hz] at this; simpa using this
  subst hll
  obtain ⟨be, oe, ce, e2, hbe, hce⟩ := h.2.1.at_ (by rw [hel]; simp)
  obtain ⟨bi, oi, ci, e5, hbi, hci⟩ := (h.2.2.2.1 (ev, l2) (by rw [hel]; simp)).at_ (by intro h0; have h0 : l2 = [] := h0; rw [h0] at hx; simp at hx)
  have q1 := hce 0 (ev, l2) (by rw [hel]; rfl) 0 ev rfl
  have q2 := hci j x hx 0 (.int .i64 x) rfl
  rw [hel] at e2
  replace e5 : ev = .slice (some ⟨bi, oi, none⟩) l2.length ci := e5
  rw [hl] at e5
  subst e5
  exact ⟨p1, _, c1, be, oe, ce, bi, oi, ci, p3, _, c3, p4, _, c4, e1, e2, e3, e4, by simpa using q1, by simpa using q2, hbe, hbi⟩
set_option maxRecDepth 100000 in
set_option maxHeartbeats 1000000 in
theorem sourceOpen_any (p q : Nat) (hp : p < 256) (hq : q < 256) (w : World) (hW : SW w) : Calls Tryz.prog 4 #[.int .u8 (p : Int), .int .u8 (q : Int)] w fun e w' => e = .returned (.bool true) ∧ Below w.heap.size w w' := by
  have HW := Lib.hid hW
  clear hW
  obtain ⟨m, hm⟩ : ∃ m, q % 60 = m := ⟨_, rfl⟩
  obtain ⟨g, hg⟩ : ∃ g, p % 5 = g := ⟨_, rfl⟩
  have hm59 : m ≤ 59 := by omega
  have hg4 : g ≤ 4 := by omega
  have HO := Lib.hid (open_at g m hg4 (by omega))
  have hq2 : (q : Int) % 60 = (m : Int) := by omega
  have hp2 : (p : Int) % 5 = (g : Int) := by omega
  clear hm hg
  have hn1 : IntKind.i64.wrap (1 + (m : Int) - 1) = (m : Int) := by rw [IntWalk.i64_in _ (by omega)]; omega
  go_enter Tryz.func4, Tryz.ntmps4
  go_upto_region 4 with fail
  simp only [hq2, hp2]
  clear hq2 hp2
  go_loopw [7, 21] (fun tv iv wr => ∃ k : Nat, k ≤ m ∧ iv = .int .i64 (k : Int) ∧ tv = .string ⟨(opX g k).toArray⟩ ∧ Hid (Below w.heap.size w wr)) (fun _ iv _ => m - (intOf iv).toNat)
  case atStart => exact ⟨0, Nat.zero_le _, rfl, by rw [opX_zero]; rfl, Lib.hid (Below.refl _ _)⟩
  case round =>
    obtain ⟨k, hk, rfl, rfl, HB⟩ := hrel
    by_cases hlt : k < m
    · have hd : decide ((k : Int) < (m : Int)) = true := by simp; omega
      have HRp := Lib.hid (show Calls Tryz.prog 13 #[.string ⟨#[35, 32, 120, 10]⟩, .int .i64 (g : Int)] wr fun e w' => e = .returned (.string ⟨(linesT (List.replicate g opP)).toArray⟩) ∧ Below wr.heap.size wr w' from repl_any opP g wr (by decide) (by omega))
      have hxl := opX_len g k hg4 (by omega)
      have hrl : (linesT (List.replicate g opP)).length ≤ 1000 := by rw [linesT_rep]; simp [opP]; omega
      have HX := Lib.hid (show (⟨(opX g k).toArray⟩ : ByteArray) ++ ((⟨(linesT (List.replicate g opP)).toArray⟩ : ByteArray) ++ ⟨#[9, 49, 58, 48, 48, 32, 45, 32, 67, 69, 84, 32, 49, 57, 57, 49, 32, 70, 101, 98, 32, 51, 32, 49, 58, 48, 48, 117, 10]⟩) = ⟨(opX g (k + 1)).toArray⟩ from by rw [opX_succ, ← bappO, ← bappO]; rfl)
      generalize opX g k = tx at *
      generalize linesT (List.replicate g opP) = rx at *
      have hz1 : (⟨tx.toArray⟩ : ByteArray).size ≤ 10000 := by simp [ByteArray.size]; omega
      have hz2 : (⟨rx.toArray⟩ : ByteArray).size ≤ 1000 := by simp [ByteArray.size]; omega
      go_wp2_with fail
      refine HRp.out.mono ?_
      rintro e1 w1 ⟨rfl, hb1⟩
      have HB2 := Lib.hid (HB.out.trans (hb1.mono HB.out.size))
      clear hb1 HRp HB
      go_wp2_with fail
      go_roundw
      case rel => exact ⟨k + 1, by omega, by go_num, by rw [← HX.out], HB2⟩
      case measure => simp [intOf]; omega
    · obtain rfl : k = m := by omega
      have hd : decide ((k : Int) < (k : Int)) = false := by simp
      have htl := opX_len g k hg4 hm59
      have hnl : (linesT (List.replicate g ([] : List UInt8))).length ≤ 10 := by rw [linesT_rep]; simp; omega
      obtain ⟨t, ht⟩ : ∃ t, k * (g + 1) = t := ⟨_, rfl⟩
      have ht2 : t ≤ 295 := by rw [← ht]; exact Nat.le_trans (Nat.mul_le_mul hm59 (show g + 1 ≤ 5 by omega)) (by decide)
      have hmul : (k : Int) * ((g : Int) + 1) = (t : Int) := by rw [← ht]; simp
      have ht3 : (k + 1) * (g + 1) = t + g + 1 := by rw [Nat.succ_mul, ht]; omega
      have HA := Lib.hid HO.out.first
      have HM := Lib.hid HO.out.many
      have HG := Lib.hid HO.out.good
      rw [ht] at HA
      rw [ht3] at HM HG
      have HRn := Lib.hid (fun W => show Calls Tryz.prog 13 #[.string ⟨#[10]⟩, .int .i64 (g : Int)] W fun e w' => e = .returned (.string ⟨(linesT (List.replicate g [])).toArray⟩) ∧ Below W.heap.size W w' from repl_any [] g W (by decide) (by omega))
      generalize linesT (List.replicate g []) = nx at *
      generalize opX g k = tx at *
      clear ht ht3 HO hlt hk
      have HT := Lib.hid (show (⟨tx.toArray⟩ ++ ⟨nx.toArray⟩ ++ ⟨#[48, 58, 48, 48, 32, 45, 32, 71, 77, 84, 10, 76, 105, 110, 107, 32, 90, 32, 89]⟩ : ByteArray).data.toList = tx ++ nx ++ (opT ++ [10] ++ opY) from by simp [ByteArray.data_append, opT, opY])
      have HZ := Lib.hid (show (⟨tx.toArray⟩ ++ ⟨nx.toArray⟩ ++ ⟨#[48, 58, 48, 48, 32, 45, 32, 71, 77, 84, 10, 76, 105, 110, 107, 32, 90, 32, 89]⟩ : ByteArray).size ≤ 1048576 from by simp [ByteArray.size_append, ByteArray.size]; omega)
      have hz1 : (⟨tx.toArray⟩ : ByteArray).size ≤ 10000 := by simp [ByteArray.size]; omega
      have hz2 : (⟨nx.toArray⟩ : ByteArray).size ≤ 10 := by simp [ByteArray.size]; omega
      go_wp2_with fail
      refine (HRn.out _).mono ?_
      rintro e1 w1 ⟨rfl, hb1⟩
      have HB1 := Lib.hid (HB.out.trans (hb1.mono HB.out.size))
      clear hb1 HB
      have HRf := Lib.hid (refused_any (⟨tx.toArray⟩ ++ ⟨nx.toArray⟩) (1 + (t : Int)) 5 w1 (HW.out.below HB1.out) (by simp [ByteArray.size_append, ByteArray.size]; omega) (by have h := HA.out; simpa [ByteArray.data_append] using h) (by decide))
      go_wp2_with fail
      refine HRf.out.mono ?_
      rintro e2 w2 ⟨rfl, hb2⟩
      have HB2 := Lib.hid (HB1.out.trans (hb2.mono HB1.out.size))
      clear hb2 HB1 HRf HA
      go_wp2_with fail
      refine (HRn.out _).mono ?_
      rintro e3 w3 ⟨rfl, hb3⟩
      have HB3 := Lib.hid (HB2.out.trans (hb3.mono HB2.out.size))
      clear hb3 HB2
      by_cases h60 : k + 1 = 60
      · have HM2 := Lib.hid (HM.out h60)
        have HP := Lib.hid (sparse_any (⟨tx.toArray⟩ ++ ⟨nx.toArray⟩ ++ ⟨#[48, 58, 48, 48, 32, 45, 32, 71, 77, 84, 10, 76, 105, 110, 107, 32, 90, 32, 89]⟩) w3 (HW.out.below HB3.out).tabs (HW.out.below HB3.out).maxl (HW.out.below HB3.out).errt HZ.out)
        have h59 : k = 59 := by omega
        have hq60 : ((1 + (k : Int)) == 60) = true := by rw [beq_iff_eq]; omega
        have HQ := Lib.hid hq60
        clear h60 HM HG h59
        go_wp2_with fail
        refine HP.out.mono ?_
        rintro e4 w4 ⟨hp, hb4⟩
        unfold ParsePost at hp
        rw [HT.out, HM2.out] at hp
        rcases hp with ⟨h0, -⟩ | ⟨-, v, rfl, -⟩
        · exact absurd h0 (by show ¬ (7 : Int) = 0; decide)
        simp only [nil4]
        have hba : Below w4.heap.size w4 ((w4.alloc (.cells #[.slice none 0 0, .slice none 0 0, .slice none 0 0, .slice none 0 0] 28)).alloc (.cells #[.slice none 0 0, .slice none 0 0, .slice none 0 0, .slice none 0 0] 32)) := ((Below.refl _ _).alloc (Nat.le_refl _) _).alloc (by simp) _
        have HB4 := Lib.hid (HB3.out.trans ((hb4.trans (hba.mono hb4.size)).mono HB3.out.size))
        clear hba hb4 HP HB3
        go_upto_region 11 with fail
        generalize ((w4.alloc (.cells #[.slice none 0 0, .slice none 0 0, .slice none 0 0, .slice none 0 0] 28)).alloc (.cells #[.slice none 0 0, .slice none 0 0, .slice none 0 0, .slice none 0 0] 32)) = wa at *
        generalize w4.heap.size = A at *
        go_wp2_with fail
        refine (HRn.out _).mono ?_
        rintro e5 w5 ⟨rfl, hb5⟩
        have HB5 := Lib.hid (HB4.out.trans (hb5.mono HB4.out.size))
        clear hb5 HB4
        have HRf := Lib.hid (refused_any (⟨tx.toArray⟩ ++ ⟨nx.toArray⟩ ++ ⟨#[48, 58, 48, 48, 32, 45, 32, 71, 77, 84, 10, 76, 105, 110, 107, 32, 90, 32, 89]⟩) (1 + (t : Int) + (g : Int) + 1) 7 w5 (HW.out.below HB5.out) HZ.out (by rw [HT.out, HM2.out, show (1 + (t : Int) + (g : Int) + 1) = 1 + ((t + g + 1 : Nat) : Int) from by omega]) (by decide))
        go_wp2_with fail
        refine HRf.out.mono ?_
        rintro e6 w6 ⟨rfl, hb6⟩
        have HB6 := Lib.hid (HB5.out.trans (hb6.mono HB5.out.size))
        clear hb6 HB5 HRf
        have HWk := Lib.hid (works_any w6 (HW.out.below HB6.out))
        go_wp2_with fail
        refine HWk.out.mono ?_
        rintro e7 w7 ⟨rfl, hb7⟩
        have HB7 := Lib.hid (HB6.out.trans (hb7.mono HB6.out.size))
        clear hb7 HB6 HWk
        go_wp2_with fail
        go_ret
        exact ⟨rfl, HB7.out⟩
      · obtain ⟨src, ln, hsr, ⟨nm, es, hzs, hes⟩, hlk, le, hle, hlx, hlel⟩ := HG.out (by omega)
        have HP := Lib.hid (parse_ok (⟨tx.toArray⟩ ++ ⟨nx.toArray⟩ ++ ⟨#[48, 58, 48, 48, 32, 45, 32, 71, 77, 84, 10, 76, 105, 110, 107, 32, 90, 32, 89]⟩) w3 (HW.out.below HB3.out) HZ.out (src := src) (ln := ln) (by rw [HT.out]; exact hsr))
        have hq60 : ((1 + (k : Int)) == 60) = false := by rw [beq_eq_false_iff_ne]; omega
        clear HM HG hsr
        go_wp2_with fail
        refine HP.out.mono ?_
        rintro e4 w2 ⟨⟨B1, st1, cur1, el1, ⟨v1, v2, v3, v4, u1, u2, u3, u4⟩, rfl, hr1, hst, hln⟩, hb4⟩
        have hs1 := hr1.src
        have hl1 := hr1.ln
        rw [hst] at hs1
        rw [hln] at hl1
        simp only at hs1 hl1 ⊢
        obtain ⟨p1, n1, c1, bz, oz, cz, pe, ce, p3, c3, p4, n4, c4, rfl, rfl, rfl, rfl, hzc, hbz⟩ := open_src hs1 hzs hes hlk
        obtain ⟨q1, m1, d1, be, oe, ce2, bi, oi, ci, q3, m3, d3, q4, m4, d4, rfl, rfl, rfl, rfl, hec, hic, hbe, hbi⟩ := open_ln hl1 hle hlel hlx
        clear hr1 hs1 hl1 hst hln hzs hes hlk hle hlx hlel
        have hba : Below w2.heap.size w2 ((w2.alloc (.cells #[.slice p1 n1 c1, .slice (some ⟨bz, oz, none⟩) 1 cz, .slice p3 1 c3, .slice p4 n4 c4] 28)).alloc (.cells #[.slice q1 m1 d1, .slice (some ⟨be, oe, none⟩) 1 ce2, .slice q3 m3 d3, .slice q4 m4 d4] 32)) := ((Below.refl _ _).alloc (Nat.le_refl _) _).alloc (by simp) _
        have HA2 := Lib.hid (show Blk ((w2.alloc (.cells #[.slice p1 n1 c1, .slice (some ⟨bz, oz, none⟩) 1 cz, .slice p3 1 c3, .slice p4 n4 c4] 28)).alloc (.cells #[.slice q1 m1 d1, .slice (some ⟨be, oe, none⟩) 1 ce2, .slice q3 m3 d3, .slice q4 m4 d4] 32)) w2.heap.size 28 #[.slice p1 n1 c1, .slice (some ⟨bz, oz, none⟩) 1 cz, .slice p3 1 c3, .slice p4 n4 c4] ∧ Blk ((w2.alloc (.cells #[.slice p1 n1 c1, .slice (some ⟨bz, oz, none⟩) 1 cz, .slice p3 1 c3, .slice p4 n4 c4] 28)).alloc (.cells #[.slice q1 m1 d1, .slice (some ⟨be, oe, none⟩) 1 ce2, .slice q3 m3 d3, .slice q4 m4 d4] 32)) (w2.heap.size + 1) 32 #[.slice q1 m1 d1, .slice (some ⟨be, oe, none⟩) 1 ce2, .slice q3 m3 d3, .slice q4 m4 d4] ∧ Below w.heap.size w ((w2.alloc (.cells #[.slice p1 n1 c1, .slice (some ⟨bz, oz, none⟩) 1 cz, .slice p3 1 c3, .slice p4 n4 c4] 28)).alloc (.cells #[.slice q1 m1 d1, .slice (some ⟨be, oe, none⟩) 1 ce2, .slice q3 m3 d3, .slice q4 m4 d4] 32)) from ⟨(Blk.new' _ _ _ rfl).alloc _, Blk.new' _ _ _ (by simp), HB3.out.trans ((hb4.trans (hba.mono hb4.size)).mono HB3.out.size)⟩)
        replace hzc := (hba.cell (p := ⟨bz, oz + 1, none⟩) hbz).trans hzc
        replace hec := (hba.cell (p := ⟨be, oe, none⟩) hbe).trans hec
        replace hic := (hba.cell (p := ⟨bi, oi + (k + 1), none⟩) hbi).trans hic
        rw [show (1 : Int) + ((t + g + 1 : Nat) : Int) = 1 + (t : Int) + (g : Int) + 1 from by omega] at hic
        have hic2 := hic
        rw [Nat.add_comm k 1] at hic2
        clear hba hb4 hbz hbe hbi HP HB3
        go_upto_region 11 with fail
        generalize ((w2.alloc (.cells #[.slice p1 n1 c1, .slice (some ⟨bz, oz, none⟩) 1 cz, .slice p3 1 c3, .slice p4 n4 c4] 28)).alloc (.cells #[.slice q1 m1 d1, .slice (some ⟨be, oe, none⟩) 1 ce2, .slice q3 m3 d3, .slice q4 m4 d4] 32)) = wa at *
        generalize w2.heap.size = A at *
        have s1 := HA2.out.1.cell_ (i := 1) rfl
        have s2 := HA2.out.1.cell_ (i := 2) rfl
        have l1 := HA2.out.2.1.cell_ (i := 1) rfl
        have HB5 := Lib.hid HA2.out.2.2
        have HWk := Lib.hid (works_any wa (HW.out.below HB5.out))
        clear HA2
        go_wp2_with fail
        refine HWk.out.mono ?_
        rintro e7 w7 ⟨rfl, hb7⟩
        have HB7 := Lib.hid (HB5.out.trans (hb7.mono HB5.out.size))
        clear hb7 HB5 HWk
        go_wp2_with fail
        go_ret
        exact ⟨rfl, HB7.out⟩
end Go.Proofs.YtciclddfhohieaaGreatDoor
