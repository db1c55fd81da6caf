/-
  The reference of layer 11, printing: Print returns what the program's function returns.
-/
import Derived.Test.YtmcgbjjcpcgcfaaGreatDoorRefEraA
import Derived.Test.YtmcgbjjcpcgcfaaGreatDoorRelAll
import Derived.Test.YtmcgbjjcpcgcfaaGreatDoorOffAll
set_option linter.unusedVariables false
set_option linter.unusedSimpArgs false
namespace Go.Proofs.YtmcgbjjcpcgcfaaGreatDoor
open Go.RowKit

theorem mon_jan {m : Int} (h : 1 ≤ m ∧ m ≤ 12) : monthT m = [74, 97, 110] ↔ m = 1 := by
  constructor
  · intro he
    have h1 := (month_back h).1
    rw [he, show wordR monthL 1 [74, 97, 110] = (1, 0) by decide +kernel] at h1
    exact (Prod.mk.inj h1).1.symm
  · rintro rfl
    decide +kernel
theorem day_one {k wk d : Int} (h : rightDay k wk d = true) : dayText k wk d = [49] ↔ (k, wk, d) = (1, 0, 1) := by
  constructor
  · intro he
    have h1 := (day_back h).1
    rw [he, show parseR [49] = ((1, 0, 1), 0) by decide +kernel] at h1
    exact (Prod.mk.inj h1).1.symm
  · intro he
    injection he with h1 h2
    injection h2 with h2 h3
    subst h1 h2 h3
    decide +kernel
theorem clock_zero {x b : Int} (h : clockOk x b = true) : clockT x b = [48, 58, 48, 48] ↔ (x, b) = (0, 0) := by
  constructor
  · intro he
    have h1 := clock_back h
    rw [he, show clockR [48, 58, 48, 48] = ((0, 0), 0) by decide +kernel] at h1
    exact (Prod.mk.inj h1).1.symm
  · intro he
    injection he with h1 h2
    subst h1 h2
    decide +kernel
def TabE (cs : Array Value) (u : Value) (W : World) : Prop := ∃ g : Nat, u = .slice (some ⟨g, 0, none⟩) 4 4 ∧ Blk W g 9 cs
theorem TabE.lasts (cs : Array Value) : Lasts (TabE cs) := fun u w w' hb ⟨g, h1, h2⟩ => ⟨g, h1, h2.below hb h2.lt⟩
theorem asBl (l : List UInt8) : ∃ s : ByteArray, l = s.data.toList := ⟨⟨l.toArray⟩, by simp⟩
theorem off_pos (x : Int) : 0 < (offTx x).length := by
  unfold offTx
  obtain ⟨c, hc, _⟩ := off_last (n := x.natAbs)
  cases ho : offT x.natAbs with
  | nil => rw [ho] at hc; cases hc
  | cons a l => simp; omega
theorem ba_back (X : ByteArray) : (⟨X.data.toList.toArray⟩ : ByteArray) = X := by simp
theorem str_yes {s : ByteArray} {l : List UInt8} (h : s.data.toList = l) : (s.toList == l) = true := by rw [Lib.toList_data, h]; simp
/-- the line, as far as the field behind k fields of the end -/
def lineK (e : EraP) (k : Nat) : List UInt8 := offTx e.off ++ ([32] ++ (byT e ++ ([32] ++ (e.fmt ++ ((untilFull e.til).take k).flatMap fun x => 32 :: x))))
theorem lineK_all {e : EraP} (hi : e.til.is = true) : lineK e (1 + lastN e.til) = eraT e := by
  rw [eraT_eq, lineK, endT, untilFs_take hi]
theorem lineK_none {e : EraP} (hi : e.til.is = false) : lineK e 0 = eraT e := by
  rw [eraT_eq, lineK, endT, untilFs, if_pos hi]; rfl
theorem lineK_succ {e : EraP} {k : Nat} {a : List UInt8} (h : (untilFull e.til)[k]? = some a) : lineK e (k + 1) = lineK e k ++ ([32] ++ a) := by
  rw [lineK, lineK, List.take_add_one, h]
  simp [List.append_assoc]
theorem full_len {e : EraP} (h : EraRight e) (hi : e.til.is = true) : ∀ a ∈ untilFull e.til, a.length ≤ 30 := by
  intro a ha
  simp only [untilFull, List.mem_cons, List.not_mem_nil, or_false] at ha
  rcases ha with rfl | rfl | rfl | rfl
  · exact (year_plain (h.til.year hi)).2
  · have := monthT_len e.til.mon; omega
  · have := (day_back (h.til.day hi)).2.2; omega
  · have := clock_len (h.til.hour hi); omega
theorem by_len {e : EraP} (h : EraRight e) : (byT e).length ≤ 30 := (by_plain h).2
theorem year_nat {y : Int} (h : namedB y = true) : ∃ n : Nat, y = (n : Int) ∧ n ≤ 2149 ∧ Lib.itoa y = Lib.decDigits n := by
  have : 1850 ≤ y ∧ y ≤ 2149 := by simpa [namedB] using h
  obtain ⟨n, rfl⟩ := Int.eq_ofNat_of_zero_le (show 0 ≤ y by omega)
  exact ⟨n, rfl, by omega, rfl⟩

set_option maxRecDepth 100000 in
set_option maxHeartbeats 1000000 in
theorem r11print_off (off kd sv : Int) (sn sf : ByteArray) (is : Bool) (y m d1 d2 d3 h1 h2 : Int) (st : ByteArray) (se : Int) (w : World)
    (HP1 : Hid (∀ W, Calls Tryz.prog 77 #[.int .i64 off] W fun e w' => e = .returned (.tuple #[.string ⟨#[]⟩, .int .i64 3]) ∧ Below W.heap.size W w'))
    (HP2 : Hid (∀ W, Calls Tryz.prog 77 #[.int .i64 sv] W fun e w' => e = .returned (.tuple #[.string st, .int .i64 se]) ∧ Below W.heap.size W w')) :
    Calls Tryz.prog 84 #[.agg #[.int .i64 off, .int .i64 kd, .int .i64 sv, .string sn, .string sf, .bool is, .int .i64 y, .int .i64 m, .int .i64 d1, .int .i64 d2, .int .i64 d3, .int .i64 h1, .int .i64 h2]] w fun e w' => e = .returned (.tuple #[.string ⟨#[]⟩, .int .i64 2]) ∧ Below w.heap.size w w' := by
  have HB0 := Lib.hid (show ∀ o, Below w.heap.size w (w.alloc o) from fun o => (Below.refl _ _).alloc (Nat.le_refl _) o)
  go_enter Tryz.func84, Tryz.ntmps84
  go_wp2_with fail
  refine (HP1.out _).mono ?_
  rintro e w1 ⟨rfl, hb1⟩
  have HB1 := Lib.hid (And.intro ((Blk.new' w 55 #[.int .i64 off, .int .i64 kd, .int .i64 sv, .string sn, .string sf, .bool is, .int .i64 y, .int .i64 m, .int .i64 d1, .int .i64 d2, .int .i64 d3, .int .i64 h1, .int .i64 h2] rfl).below hb1 (by simp)) ((HB0.out _).trans (hb1.mono (HB0.out _).size)))
  have c2 : w1.cell? ⟨w.heap.size, 2, none⟩ = some (.int .i64 sv) := HB1.out.1.cell_ rfl
  clear hb1 HB0 HP1
  go_wp2_with fail
  refine (HP2.out _).mono ?_
  rintro e w2 ⟨rfl, hb2⟩
  have HB2 := Lib.hid (And.intro (HB1.out.1.below hb2 HB1.out.1.lt) (HB1.out.2.trans (hb2.mono HB1.out.2.size)))
  clear hb2 HB1 HP2 c2
  go_wp2_with fail
  go_ret2
  exact ⟨rfl, HB2.out.2⟩

set_option maxRecDepth 100000 in
set_option maxHeartbeats 1000000 in
theorem r11print_sv (off kd sv : Int) (sn sf : ByteArray) (is : Bool) (y m d1 d2 d3 h1 h2 : Int) (ot : ByteArray) (w : World)
    (HP1 : Hid (∀ W, Calls Tryz.prog 77 #[.int .i64 off] W fun e w' => e = .returned (.tuple #[.string ot, .int .i64 0]) ∧ Below W.heap.size W w'))
    (HP2 : Hid (∀ W, Calls Tryz.prog 77 #[.int .i64 sv] W fun e w' => e = .returned (.tuple #[.string ⟨#[]⟩, .int .i64 3]) ∧ Below W.heap.size W w')) :
    Calls Tryz.prog 84 #[.agg #[.int .i64 off, .int .i64 kd, .int .i64 sv, .string sn, .string sf, .bool is, .int .i64 y, .int .i64 m, .int .i64 d1, .int .i64 d2, .int .i64 d3, .int .i64 h1, .int .i64 h2]] w fun e w' => e = .returned (.tuple #[.string ⟨#[]⟩, .int .i64 2]) ∧ Below w.heap.size w w' := by
  have HB0 := Lib.hid (show ∀ o, Below w.heap.size w (w.alloc o) from fun o => (Below.refl _ _).alloc (Nat.le_refl _) o)
  go_enter Tryz.func84, Tryz.ntmps84
  go_wp2_with fail
  refine (HP1.out _).mono ?_
  rintro e w1 ⟨rfl, hb1⟩
  have HB1 := Lib.hid (And.intro ((Blk.new' w 55 #[.int .i64 off, .int .i64 kd, .int .i64 sv, .string sn, .string sf, .bool is, .int .i64 y, .int .i64 m, .int .i64 d1, .int .i64 d2, .int .i64 d3, .int .i64 h1, .int .i64 h2] rfl).below hb1 (by simp)) ((HB0.out _).trans (hb1.mono (HB0.out _).size)))
  have c2 : w1.cell? ⟨w.heap.size, 2, none⟩ = some (.int .i64 sv) := HB1.out.1.cell_ rfl
  clear hb1 HB0 HP1
  go_wp2_with fail
  refine (HP2.out _).mono ?_
  rintro e w2 ⟨rfl, hb2⟩
  have HB2 := Lib.hid (And.intro (HB1.out.1.below hb2 HB1.out.1.lt) (HB1.out.2.trans (hb2.mono HB1.out.2.size)))
  clear hb2 HB1 HP2 c2
  go_wp2_with fail
  go_ret2
  exact ⟨rfl, HB2.out.2⟩

set_option maxRecDepth 100000 in
set_option maxHeartbeats 2000000 in
theorem r11print_k0 (off sv : Int) (sn sf : ByteArray) (is : Bool) (y m d1 d2 d3 h1 h2 : Int) (bo bs : ByteArray) (R : List UInt8 × Int) (w : World) (hsn : sn.size ≤ 1048576) (hsf : sf.size ≤ 1048576)
    (HOff : Hid (-604799 ≤ off ∧ off ≤ 604799)) (HSv : Hid (-604799 ≤ sv ∧ sv ≤ 604799)) (Hbo : Hid (offTx off = bo.data.toList)) (Hbs : Hid (offTx sv = bs.data.toList))
    (HN : Hid (¬ EraRight ⟨off, 0, sv, sn.data.toList, sf.data.toList, ⟨is, y, m, (d1, d2, d3), (h1, h2)⟩⟩ → R = ([], 2))) (HY : Hid (EraRight ⟨off, 0, sv, sn.data.toList, sf.data.toList, ⟨is, y, m, (d1, d2, d3), (h1, h2)⟩⟩ → R = (eraT ⟨off, 0, sv, sn.data.toList, sf.data.toList, ⟨is, y, m, (d1, d2, d3), (h1, h2)⟩⟩, 0)))
    (HP1 : Hid (∀ W, Calls Tryz.prog 77 #[.int .i64 off] W fun e w' => e = .returned (.tuple #[.string bo, .int .i64 0]) ∧ Below W.heap.size W w'))
    (HP2 : Hid (∀ W, Calls Tryz.prog 77 #[.int .i64 sv] W fun e w' => e = .returned (.tuple #[.string bs, .int .i64 0]) ∧ Below W.heap.size W w')) :
    Calls Tryz.prog 84 #[.agg #[.int .i64 off, .int .i64 0, .int .i64 sv, .string sn, .string sf, .bool is, .int .i64 y, .int .i64 m, .int .i64 d1, .int .i64 d2, .int .i64 d3, .int .i64 h1, .int .i64 h2]] w fun e w' => e = .returned (.tuple #[.string ⟨R.1.toArray⟩, .int .i64 R.2]) ∧ Below w.heap.size w w' := by
  have HWr := Lib.hid (fun W => calls_flip (r11written_any sf W hsf))
  have HRt := Lib.hid (fun W => r11right_any ⟨is, y, m, (d1, d2, d3), (h1, h2)⟩ W)
  simp only [UntilP.arr] at HRt
  have HSe := Lib.hid (fun W => eSet' sn W hsn)
  have HLn := Lib.hid (And.intro hsn hsf)
  clear hsn hsf
  have HB0 := Lib.hid (show ∀ o, Below w.heap.size w (w.alloc o) from fun o => (Below.refl _ _).alloc (Nat.le_refl _) o)
  go_enter Tryz.func84, Tryz.ntmps84
  go_wp2_with fail
  refine (HP1.out _).mono ?_
  rintro e w1 ⟨rfl, hb1⟩
  have HB1 := Lib.hid (And.intro ((Blk.new' w 55 #[.int .i64 off, .int .i64 0, .int .i64 sv, .string sn, .string sf, .bool is, .int .i64 y, .int .i64 m, .int .i64 d1, .int .i64 d2, .int .i64 d3, .int .i64 h1, .int .i64 h2] rfl).below hb1 (by simp)) ((HB0.out _).trans (hb1.mono (HB0.out _).size)))
  have c2 : w1.cell? ⟨w.heap.size, 2, none⟩ = some (.int .i64 sv) := HB1.out.1.cell_ rfl
  clear hb1 HB0 HP1
  go_wp2_with fail
  refine (HP2.out _).mono ?_
  rintro e w2 ⟨rfl, hb2⟩
  have HB2 := Lib.hid (And.intro (HB1.out.1.below hb2 HB1.out.1.lt) (HB1.out.2.trans (hb2.mono HB1.out.2.size)))
  clear hb2 HB1 HP2 c2
  have c0 : w2.cell? ⟨w.heap.size, 0, none⟩ = some (.int .i64 off) := HB2.out.1.cell_ rfl
  have c1 : w2.cell? ⟨w.heap.size, 1, none⟩ = some (.int .i64 0) := HB2.out.1.cell_ rfl
  have c2 : w2.cell? ⟨w.heap.size, 2, none⟩ = some (.int .i64 sv) := HB2.out.1.cell_ rfl
  have c3 : w2.cell? ⟨w.heap.size, 3, none⟩ = some (.string sn) := HB2.out.1.cell_ rfl
  have c4 : w2.cell? ⟨w.heap.size, 4, none⟩ = some (.string sf) := HB2.out.1.cell_ rfl
  have c5 : w2.cell? ⟨w.heap.size, 5, none⟩ = some (.bool is) := HB2.out.1.cell_ rfl
  have c6 : w2.cell? ⟨w.heap.size, 6, none⟩ = some (.int .i64 y) := HB2.out.1.cell_ rfl
  have c7 : w2.cell? ⟨w.heap.size, 7, none⟩ = some (.int .i64 m) := HB2.out.1.cell_ rfl
  have c8 : w2.cell? ⟨w.heap.size, 8, none⟩ = some (.int .i64 d1) := HB2.out.1.cell_ rfl
  have c9 : w2.cell? ⟨w.heap.size, 9, none⟩ = some (.int .i64 d2) := HB2.out.1.cell_ rfl
  have c10 : w2.cell? ⟨w.heap.size, 10, none⟩ = some (.int .i64 d3) := HB2.out.1.cell_ rfl
  have c11 : w2.cell? ⟨w.heap.size, 11, none⟩ = some (.int .i64 h1) := HB2.out.1.cell_ rfl
  have c12 : w2.cell? ⟨w.heap.size, 12, none⟩ = some (.int .i64 h2) := HB2.out.1.cell_ rfl
  go_upto_region 3 with fail
  cases hf : fmtB sf.data.toList
  case false =>
    have HR := Lib.hid (HN.out fun h => Bool.noConfusion (hf.symm.trans h.fmt))
    rw [hf] at HWr
    clear hf HN HY HRt HSe
    go_wp2_with fail
    refine (HWr.out _).mono ?_
    rintro e w3 ⟨rfl, rfl⟩
    go_wp2_with fail
    go_ret2
    exact ⟨by rw [HR.out]; rfl, HB2.out.2⟩
  rw [hf] at HWr
  have HFm := Lib.hid hf
  clear hf
  go_wp2_with fail
  refine (HWr.out _).mono ?_
  rintro e w3 ⟨rfl, rfl⟩
  go_wp2_with fail
  refine (HRt.out _).mono ?_
  rintro e w3 ⟨rfl, hb3⟩
  have HB3 := Lib.hid (And.intro (HB2.out.1.below hb3 HB2.out.1.lt) (HB2.out.2.trans (hb3.mono HB2.out.2.size)))
  clear hb3 HB2 HWr HRt c0 c1 c2 c3 c4 c5 c6 c7 c8 c9 c10 c11 c12
  have c0 : w3.cell? ⟨w.heap.size, 0, none⟩ = some (.int .i64 off) := HB3.out.1.cell_ rfl
  have c1 : w3.cell? ⟨w.heap.size, 1, none⟩ = some (.int .i64 0) := HB3.out.1.cell_ rfl
  have c2 : w3.cell? ⟨w.heap.size, 2, none⟩ = some (.int .i64 sv) := HB3.out.1.cell_ rfl
  have c3 : w3.cell? ⟨w.heap.size, 3, none⟩ = some (.string sn) := HB3.out.1.cell_ rfl
  have c4 : w3.cell? ⟨w.heap.size, 4, none⟩ = some (.string sf) := HB3.out.1.cell_ rfl
  have c5 : w3.cell? ⟨w.heap.size, 5, none⟩ = some (.bool is) := HB3.out.1.cell_ rfl
  have c6 : w3.cell? ⟨w.heap.size, 6, none⟩ = some (.int .i64 y) := HB3.out.1.cell_ rfl
  have c7 : w3.cell? ⟨w.heap.size, 7, none⟩ = some (.int .i64 m) := HB3.out.1.cell_ rfl
  have c8 : w3.cell? ⟨w.heap.size, 8, none⟩ = some (.int .i64 d1) := HB3.out.1.cell_ rfl
  have c9 : w3.cell? ⟨w.heap.size, 9, none⟩ = some (.int .i64 d2) := HB3.out.1.cell_ rfl
  have c10 : w3.cell? ⟨w.heap.size, 10, none⟩ = some (.int .i64 d3) := HB3.out.1.cell_ rfl
  have c11 : w3.cell? ⟨w.heap.size, 11, none⟩ = some (.int .i64 h1) := HB3.out.1.cell_ rfl
  have c12 : w3.cell? ⟨w.heap.size, 12, none⟩ = some (.int .i64 h2) := HB3.out.1.cell_ rfl
  cases hu : untilOk ⟨is, y, m, (d1, d2, d3), (h1, h2)⟩
  case false =>
    have HR := Lib.hid (HN.out fun h => Bool.noConfusion (hu.symm.trans ((untilOk_iff _).2 h.til)))
    clear hu HN HY HSe
    go_wp2_with fail
    go_ret2
    exact ⟨by rw [HR.out]; rfl, HB3.out.2⟩
  have HU := Lib.hid ((untilOk_iff _).1 hu)
  clear hu
  by_cases hv0 : sv = 0
  case neg =>
    have HR := Lib.hid (HN.out fun h => hv0 (h.save0 (show (0 : Int) ≠ 1 by decide)))
    have hv1 : (sv != 0) = true := bne_iff_ne.2 hv0
    have hv2 : (sv == 0) = false := beq_eq_false_iff_ne.2 hv0
    clear hv0 HN HY HSe
    go_wp2_with fail
    go_ret2
    exact ⟨by rw [HR.out]; rfl, HB3.out.2⟩
  subst hv0
  by_cases hs0 : sn.data.toList = []
  case neg =>
    have HR := Lib.hid (HN.out fun h => hs0 (h.set0 (show (0 : Int) ≠ 2 by decide)))
    have hs1 := str_ne hs0
    have hs2 : (sn.toList != []) = true := by rw [bne_iff_ne, Lib.toList_data]; exact hs0
    clear hs0 HN HY HSe
    go_wp2_with fail
    go_ret2
    exact ⟨by rw [HR.out]; rfl, HB3.out.2⟩
  obtain rfl : sn = ⟨#[]⟩ := str_of hs0
  clear hs0 HSe
  have HRi := Lib.hid (show EraRight ⟨off, 0, 0, (⟨#[]⟩ : ByteArray).data.toList, sf.data.toList, ⟨is, y, m, (d1, d2, d3), (h1, h2)⟩⟩ from ⟨HOff.out, (show (0 : Int) ≤ 0 ∧ (0 : Int) ≤ 2 by decide), fun _ => rfl, (fun h => absurd h (show ¬ (0 : Int) = 1 by decide)), (fun h => absurd h (show ¬ (0 : Int) = 2 by decide)), fun _ => rfl, HFm.out, HU.out⟩)
  have HBy := Lib.hid (show byT ⟨off, 0, 0, (⟨#[]⟩ : ByteArray).data.toList, sf.data.toList, ⟨is, y, m, (d1, d2, d3), (h1, h2)⟩⟩ = [45] from rfl)
  have HL0 := Lib.hid (show lineK ⟨off, 0, 0, (⟨#[]⟩ : ByteArray).data.toList, sf.data.toList, ⟨is, y, m, (d1, d2, d3), (h1, h2)⟩⟩ 0 = bo.data.toList ++ ([32] ++ ([45] ++ ([32] ++ sf.data.toList))) by
    rw [lineK, HBy.out]; simp only [Hbo.out, List.take_zero, List.flatMap_nil, List.append_nil])
  have hz1 : bo.size ≤ 30 := by
    have := off_len HOff.out
    rw [Hbo.out] at this
    rw [size_len]; omega
  have hz3 : sf.size ≤ 30 := by
    have := (fmt_plain HFm.out).2.2
    rw [size_len]; omega
  have HR := Lib.hid (HY.out HRi.out)
  obtain ⟨LB, hLB⟩ : ∃ LB : ByteArray, bo ++ ⟨#[32]⟩ ++ ⟨#[45]⟩ ++ ⟨#[32]⟩ ++ sf = LB := ⟨_, rfl⟩
  have HLB := Lib.hid (show LB.data.toList = lineK ⟨off, 0, 0, (⟨#[]⟩ : ByteArray).data.toList, sf.data.toList, ⟨is, y, m, (d1, d2, d3), (h1, h2)⟩⟩ 0 by rw [HL0.out, ← hLB]; simp)
  have hzL : LB.size ≤ 100 := by rw [← hLB]; simp only [ByteArray.size_append, show (⟨#[32]⟩ : ByteArray).size = 1 from rfl, show (⟨#[45]⟩ : ByteArray).size = 1 from rfl]; omega
  have HLBe := Lib.hid hLB
  clear hLB HN HY HFm HOff HSv Hbo Hbs HLn HL0
  go_upto_region 16 with fail
  rw [HLBe.out]
  clear HLBe hz1 hz3
  cases is
  case false =>
    have HF := Lib.hid (show R = (LB.data.toList, 0) by rw [HR.out, HLB.out, lineK_none rfl])
    go_wp2_with fail
    go_ret2
    exact ⟨by rw [HF.out]; simp, HB3.out.2⟩
  obtain ⟨ny, hy, hy2, hy3⟩ := year_nat (HU.out.year rfl)
  obtain ⟨sY, hsY⟩ := asBl (Lib.decDigits ny)
  obtain ⟨sM, hsM⟩ := asBl (monthT m)
  obtain ⟨sD, hsD⟩ := asBl (dayText d1 d2 d3)
  obtain ⟨sA, hsA⟩ := asBl (clockT h1 h2)
  have HDc := Lib.hid (show ∀ W, Calls Tryz.prog 112 #[.int .i64 y] W fun e w' => e = .returned (.string sY) ∧ Below W.heap.size W w' from fun W => by
    have := decimal_any ny (by omega) W
    rwa [hsY, ba_back, ← hy] at this)
  have HMt := Lib.hid (show ∀ W, Calls Tryz.prog 82 #[.int .i64 m] W fun e w' => e = .returned (.string sM) ∧ Below W.heap.size W w' from fun W => by
    have := rmonthText_any m W
    rwa [hsM, ba_back] at this)
  have HDy := Lib.hid (show ∀ W, Calls Tryz.prog 75 #[.agg #[.int .i64 d1, .int .i64 d2, .int .i64 d3]] W fun e w' => e = .returned (.tuple #[.string sD, .int .i64 0]) ∧ Below W.heap.size W w' from fun W => by
    have := rprint_any d1 d2 d3 W
    rwa [show printR d1 d2 d3 = (dayText d1 d2 d3, 0) from if_pos (HU.out.day rfl), hsD, ba_back] at this)
  have HAt := Lib.hid (show ∀ W, Calls Tryz.prog 76 #[.agg #[.int .i64 h1, .int .i64 h2]] W fun e w' => e = .returned (.tuple #[.string sA, .int .i64 0]) ∧ Below W.heap.size W w' from fun W => by
    have := r6print_any h1 h2 W
    rwa [show clockPrintR h1 h2 = (clockT h1 h2, 0) from if_pos (HU.out.hour rfl), hsA, ba_back] at this)
  have HFull := Lib.hid (show untilFull ⟨true, y, m, (d1, d2, d3), (h1, h2)⟩ = [sY.data.toList, sM.data.toList, sD.data.toList, sA.data.toList] by
    simp only [untilFull, hsM, hsD, hsA, hy3, hsY])
  have HSz := Lib.hid (show ∀ a ∈ [sY.data.toList, sM.data.toList, sD.data.toList, sA.data.toList], a.length ≤ 30 by
    rw [← HFull.out]; exact full_len HRi.out rfl)
  have HCases := Lib.hid (show (sA.data.toList ≠ [48, 58, 48, 48] ∧ lastN ⟨true, y, m, (d1, d2, d3), (h1, h2)⟩ = 3) ∨ (sA.data.toList = [48, 58, 48, 48] ∧ sD.data.toList ≠ [49] ∧ lastN ⟨true, y, m, (d1, d2, d3), (h1, h2)⟩ = 2) ∨ (sA.data.toList = [48, 58, 48, 48] ∧ sD.data.toList = [49] ∧ sM.data.toList ≠ [74, 97, 110] ∧ lastN ⟨true, y, m, (d1, d2, d3), (h1, h2)⟩ = 1) ∨ (sA.data.toList = [48, 58, 48, 48] ∧ sD.data.toList = [49] ∧ sM.data.toList = [74, 97, 110] ∧ lastN ⟨true, y, m, (d1, d2, d3), (h1, h2)⟩ = 0) by
    have e1 := clock_zero (HU.out.hour rfl)
    have e2 := day_one (HU.out.day rfl)
    have e3 := mon_jan (HU.out.mon rfl)
    simp only [hsA] at e1
    simp only [hsD] at e2
    simp only [hsM] at e3
    unfold lastN
    simp only [e1, e2, e3, ne_eq]
    by_cases a1 : (h1, h2) = ((0, 0) : Int × Int)
    · by_cases a2 : (d1, d2, d3) = ((1, 0, 1) : Int × Int × Int)
      · by_cases a3 : m = 1
        · simp only [a1, a2, a3]; simp
        · simp only [a1, a2, a3]; simp
      · simp only [a1, a2]; simp
    · simp only [a1]; simp)
  have HLst := Lib.hid (show ∀ n, lastN ⟨true, y, m, (d1, d2, d3), (h1, h2)⟩ = n → R = (lineK ⟨off, 0, 0, (⟨#[]⟩ : ByteArray).data.toList, sf.data.toList, ⟨true, y, m, (d1, d2, d3), (h1, h2)⟩⟩ (1 + n), 0) from fun n hn => by
    rw [HR.out, ← hn]
    exact congrArg (·, 0) (lineK_all rfl).symm)
  clear hy hy2 hy3 hsY hsM hsD hsA HU HR HRi HBy
  go_upto_region 19 with fail
  have HU1 := Lib.hid (show Blk (w3.alloc (.cells #[.bool true, .int .i64 y, .int .i64 m, .int .i64 d1, .int .i64 d2, .int .i64 d3, .int .i64 h1, .int .i64 h2] 53)) w3.heap.size 53 #[.bool true, .int .i64 y, .int .i64 m, .int .i64 d1, .int .i64 d2, .int .i64 d3, .int .i64 h1, .int .i64 h2] ∧ Below w.heap.size w (w3.alloc (.cells #[.bool true, .int .i64 y, .int .i64 m, .int .i64 d1, .int .i64 d2, .int .i64 d3, .int .i64 h1, .int .i64 h2] 53)) from ⟨Blk.new' _ _ _ rfl, rbelow_alloc HB3.out.2 _⟩)
  clear HB3 c0 c1 c2 c3 c4 c5 c6 c7 c8 c9 c10 c11 c12
  go_wp2_with fail
  refine (HDy.out _).mono ?_
  rintro e w5 ⟨rfl, hb5⟩
  have HU2 := Lib.hid (And.intro (HU1.out.1.below hb5 HU1.out.1.lt) (HU1.out.2.trans (hb5.mono HU1.out.2.size)))
  clear HU1 hb5 HDy
  generalize w3.heap.size = g10 at *
  have q6 : w5.cell? ⟨g10, 6, none⟩ = some (.int .i64 h1) := HU2.out.1.cell_ rfl
  have q7 : w5.cell? ⟨g10, 7, none⟩ = some (.int .i64 h2) := HU2.out.1.cell_ rfl
  go_wp2_with fail
  refine (HAt.out _).mono ?_
  rintro e w6 ⟨rfl, hb6⟩
  have HU3 := Lib.hid (And.intro (HU2.out.1.below hb6 HU2.out.1.lt) (HU2.out.2.trans (hb6.mono HU2.out.2.size)))
  clear HU2 hb6 HAt q6 q7
  go_upto_region 21 with fail
  refine wp_region_rels 9 [[], [], [], [], [], [], [], [], []] [Form.val, Form.val, Form.val, Form.val, Form.val, Form.val, Form.val, Form.val, Form.rel (TabE #[.string sY, .string sM, .string sD, .string sA])] (fun W => Blk W g10 53 #[.bool true, .int .i64 y, .int .i64 m, .int .i64 d1, .int .i64 d2, .int .i64 d3, .int .i64 h1, .int .i64 h2] ∧ Below w.heap.size w W) (by kernel_rfl) (by kernel_rfl) rfl rfl (⟨HU3.out.1, HU3.out.2.drew⟩) (fun W W' h hb => ⟨h.1.below hb h.1.lt, h.2.trans (hb.mono h.2.size)⟩) ⟨TabE.lasts _, trivial⟩ ?_
  repeat (first | apply exSpec_rel | apply exSpec_new | apply exSpec_val)
  apply relWalk_ex rfl ?o0 (fun K hK => ?n0)
  case o0 =>
    intro W hC hF
    have q1 : W.cell? ⟨g10, 1, none⟩ = some (.int .i64 y) := hC.1.cell_ rfl
    have q2 : W.cell? ⟨g10, 2, none⟩ = some (.int .i64 m) := hC.1.cell_ rfl
    go_simp
    all_goals exact ⟨Below.refl _ _, rfl⟩
  case' n0 =>
    go_simp
    refine hK _ ?_
    clear hK K
  apply relWalk_ex rfl ?o1 (fun K hK => ?n1)
  case o1 =>
    intro W hC hF
    have q1 : W.cell? ⟨g10, 1, none⟩ = some (.int .i64 y) := hC.1.cell_ rfl
    have q2 : W.cell? ⟨g10, 2, none⟩ = some (.int .i64 m) := hC.1.cell_ rfl
    go_simp
    all_goals exact ⟨Below.refl _ _, rfl⟩
  case' n1 =>
    go_simp
    refine hK _ ?_
    clear hK K
  apply relWalk_ex rfl ?o2 (fun K hK => ?n2)
  case o2 =>
    intro W hC hF
    have q1 : W.cell? ⟨g10, 1, none⟩ = some (.int .i64 y) := hC.1.cell_ rfl
    have q2 : W.cell? ⟨g10, 2, none⟩ = some (.int .i64 m) := hC.1.cell_ rfl
    go_simp
    all_goals exact HDc.out W
  case' n2 =>
    go_simp
    refine hK _ ?_
    clear hK K
  apply relWalk_ex rfl ?o3 (fun K hK => ?n3)
  case o3 =>
    intro W hC hF
    have q1 : W.cell? ⟨g10, 1, none⟩ = some (.int .i64 y) := hC.1.cell_ rfl
    have q2 : W.cell? ⟨g10, 2, none⟩ = some (.int .i64 m) := hC.1.cell_ rfl
    go_simp
    all_goals exact ⟨Below.refl _ _, rfl⟩
  case' n3 =>
    go_simp
    refine hK _ ?_
    clear hK K
  apply relWalk_ex rfl ?o4 (fun K hK => ?n4)
  case o4 =>
    intro W hC hF
    have q1 : W.cell? ⟨g10, 1, none⟩ = some (.int .i64 y) := hC.1.cell_ rfl
    have q2 : W.cell? ⟨g10, 2, none⟩ = some (.int .i64 m) := hC.1.cell_ rfl
    go_simp
    all_goals exact ⟨Below.refl _ _, rfl⟩
  case' n4 =>
    go_simp
    refine hK _ ?_
    clear hK K
  apply relWalk_ex rfl ?o5 (fun K hK => ?n5)
  case o5 =>
    intro W hC hF
    have q1 : W.cell? ⟨g10, 1, none⟩ = some (.int .i64 y) := hC.1.cell_ rfl
    have q2 : W.cell? ⟨g10, 2, none⟩ = some (.int .i64 m) := hC.1.cell_ rfl
    go_simp
    all_goals exact HMt.out W
  case' n5 =>
    go_simp
    refine hK _ ?_
    clear hK K
  apply relWalk_ex rfl ?o6 (fun K hK => ?n6)
  case o6 =>
    intro W hC hF
    have q1 : W.cell? ⟨g10, 1, none⟩ = some (.int .i64 y) := hC.1.cell_ rfl
    have q2 : W.cell? ⟨g10, 2, none⟩ = some (.int .i64 m) := hC.1.cell_ rfl
    go_simp
    all_goals exact ⟨Below.refl _ _, rfl⟩
  case' n6 =>
    go_simp
    refine hK _ ?_
    clear hK K
  apply relWalk_ex rfl ?o7 (fun K hK => ?n7)
  case o7 =>
    intro W hC hF
    have q1 : W.cell? ⟨g10, 1, none⟩ = some (.int .i64 y) := hC.1.cell_ rfl
    have q2 : W.cell? ⟨g10, 2, none⟩ = some (.int .i64 m) := hC.1.cell_ rfl
    go_simp
    all_goals exact ⟨Below.refl _ _, rfl⟩
  case' n7 =>
    go_simp
    refine hK _ ?_
    clear hK K
  apply relWalk_rel rfl ?o8 (fun u8 K hK => ?n8)
  case o8 =>
    intro W hC hF
    have q1 : W.cell? ⟨g10, 1, none⟩ = some (.int .i64 y) := hC.1.cell_ rfl
    have q2 : W.cell? ⟨g10, 2, none⟩ = some (.int .i64 m) := hC.1.cell_ rfl
    go_simp
    all_goals exact ⟨by go_grown, _, rfl, Blk.new _ _ _⟩
  case' n8 =>
    go_simp
    refine hK _ ?_
    clear hK K
  apply relWalk_end
  intro W hC hF hU
  obtain ⟨⟨g, rfl, hB⟩, -⟩ := hF
  have HW := Lib.hid (And.intro hB hC.2)
  clear hB hC HU3 HDc HMt
  have q0 : W.cell? ⟨g, 0, none⟩ = some (.string sY) := HW.out.1.cell_ rfl
  have q1 : W.cell? ⟨g, 1, none⟩ = some (.string sM) := HW.out.1.cell_ rfl
  have q2 : W.cell? ⟨g, 2, none⟩ = some (.string sD) := HW.out.1.cell_ rfl
  have q3 : W.cell? ⟨g, 3, none⟩ = some (.string sA) := HW.out.1.cell_ rfl
  have HCell := Lib.hid (show ∀ k, k < 4 → ∃ s : ByteArray, W.cell? ⟨g, k, none⟩ = some (.string s) ∧ Hid ([sY.data.toList, sM.data.toList, sD.data.toList, sA.data.toList][k]? = some s.data.toList) ∧ s.size ≤ 30 from fun k hk => by
    rcases (by omega : k = 0 ∨ k = 1 ∨ k = 2 ∨ k = 3) with rfl | rfl | rfl | rfl
    · exact ⟨sY, q0, rfl, HSz.out _ (by simp)⟩
    · exact ⟨sM, q1, rfl, HSz.out _ (by simp)⟩
    · exact ⟨sD, q2, rfl, HSz.out _ (by simp)⟩
    · exact ⟨sA, q3, rfl, HSz.out _ (by simp)⟩)
  go_upto_region 22 with fail
  rcases HCases.out with ⟨hA, hl⟩ | ⟨hA, hD, hl⟩ | ⟨hA, hD, hM, hl⟩ | ⟨hA, hD, hM, hl⟩
  · have HEnd := Lib.hid (HLst.out _ hl)
    have eA : (sA.toList == [48, 58, 48, 48]) = false := str_ne hA
    clear hA
    clear hl HLst HSz HCases
    go_wp2_with fail
    clear q0 q1 q2 q3
    go_loop [9, 17] (fun v i => ∃ (k : Nat) (lb : ByteArray), k ≤ 4 ∧ i = .int .i64 (k : Int) ∧ v = .string lb ∧ lb.size ≤ 100 + 40 * k ∧ Hid (lb.data.toList = lineK ⟨off, 0, 0, (⟨#[]⟩ : ByteArray).data.toList, sf.data.toList, ⟨true, y, m, (d1, d2, d3), (h1, h2)⟩⟩ k)) (fun _ i => 4 - (intOf i).toNat)
    case atStart => exact ⟨0, LB, by omega, rfl, rfl, by omega, HLB⟩
    case round =>
      obtain ⟨k, lb, hk, rfl, rfl, hsz, HI⟩ := hrel
      by_cases hlt : k < 4
      · obtain ⟨s, hc, Hs, hss⟩ := HCell.out k (by omega)
        have HI2 := Lib.hid (show (lb ++ ⟨#[32]⟩ ++ s).data.toList = lineK ⟨off, 0, 0, (⟨#[]⟩ : ByteArray).data.toList, sf.data.toList, ⟨true, y, m, (d1, d2, d3), (h1, h2)⟩⟩ (k + 1) by
          rw [lineK_succ (a := s.data.toList) (by rw [HFull.out]; exact Hs.out), ← HI.out]; simp)
        clear HI Hs
        go_wp2_with fail
        go_round
        case rel => exact ⟨k + 1, lb ++ ⟨#[32]⟩ ++ s, by omega, by go_num, rfl, by simp only [ByteArray.size_append, show (⟨#[32]⟩ : ByteArray).size = 1 from rfl]; omega, HI2⟩
        case measure => simp [intOf]; omega
      · obtain rfl : k = 4 := by omega
        have HF := Lib.hid (show R = (lb.data.toList, 0) by rw [HEnd.out, HI.out])
        clear HI
        go_wp2_with fail
        go_ret2
        exact ⟨by rw [HF.out]; simp, HW.out.2⟩
  · have HEnd := Lib.hid (HLst.out _ hl)
    have eA : (sA.toList == [48, 58, 48, 48]) = true := str_yes hA
    have eD : (sD.toList == [49]) = false := str_ne hD
    clear hA hD
    clear hl HLst HSz HCases
    go_wp2_with fail
    clear q0 q1 q2 q3
    go_loop [9, 17] (fun v i => ∃ (k : Nat) (lb : ByteArray), k ≤ 3 ∧ i = .int .i64 (k : Int) ∧ v = .string lb ∧ lb.size ≤ 100 + 40 * k ∧ Hid (lb.data.toList = lineK ⟨off, 0, 0, (⟨#[]⟩ : ByteArray).data.toList, sf.data.toList, ⟨true, y, m, (d1, d2, d3), (h1, h2)⟩⟩ k)) (fun _ i => 3 - (intOf i).toNat)
    case atStart => exact ⟨0, LB, by omega, rfl, rfl, by omega, HLB⟩
    case round =>
      obtain ⟨k, lb, hk, rfl, rfl, hsz, HI⟩ := hrel
      by_cases hlt : k < 3
      · obtain ⟨s, hc, Hs, hss⟩ := HCell.out k (by omega)
        have HI2 := Lib.hid (show (lb ++ ⟨#[32]⟩ ++ s).data.toList = lineK ⟨off, 0, 0, (⟨#[]⟩ : ByteArray).data.toList, sf.data.toList, ⟨true, y, m, (d1, d2, d3), (h1, h2)⟩⟩ (k + 1) by
          rw [lineK_succ (a := s.data.toList) (by rw [HFull.out]; exact Hs.out), ← HI.out]; simp)
        clear HI Hs
        go_wp2_with fail
        go_round
        case rel => exact ⟨k + 1, lb ++ ⟨#[32]⟩ ++ s, by omega, by go_num, rfl, by simp only [ByteArray.size_append, show (⟨#[32]⟩ : ByteArray).size = 1 from rfl]; omega, HI2⟩
        case measure => simp [intOf]; omega
      · obtain rfl : k = 3 := by omega
        have HF := Lib.hid (show R = (lb.data.toList, 0) by rw [HEnd.out, HI.out])
        clear HI
        go_wp2_with fail
        go_ret2
        exact ⟨by rw [HF.out]; simp, HW.out.2⟩
  · have HEnd := Lib.hid (HLst.out _ hl)
    have eA : (sA.toList == [48, 58, 48, 48]) = true := str_yes hA
    have eD : (sD.toList == [49]) = true := str_yes hD
    have eM : (sM.toList == [74, 97, 110]) = false := str_ne hM
    clear hA hD hM
    clear hl HLst HSz HCases
    go_wp2_with fail
    clear q0 q1 q2 q3
    go_loop [9, 17] (fun v i => ∃ (k : Nat) (lb : ByteArray), k ≤ 2 ∧ i = .int .i64 (k : Int) ∧ v = .string lb ∧ lb.size ≤ 100 + 40 * k ∧ Hid (lb.data.toList = lineK ⟨off, 0, 0, (⟨#[]⟩ : ByteArray).data.toList, sf.data.toList, ⟨true, y, m, (d1, d2, d3), (h1, h2)⟩⟩ k)) (fun _ i => 2 - (intOf i).toNat)
    case atStart => exact ⟨0, LB, by omega, rfl, rfl, by omega, HLB⟩
    case round =>
      obtain ⟨k, lb, hk, rfl, rfl, hsz, HI⟩ := hrel
      by_cases hlt : k < 2
      · obtain ⟨s, hc, Hs, hss⟩ := HCell.out k (by omega)
        have HI2 := Lib.hid (show (lb ++ ⟨#[32]⟩ ++ s).data.toList = lineK ⟨off, 0, 0, (⟨#[]⟩ : ByteArray).data.toList, sf.data.toList, ⟨true, y, m, (d1, d2, d3), (h1, h2)⟩⟩ (k + 1) by
          rw [lineK_succ (a := s.data.toList) (by rw [HFull.out]; exact Hs.out), ← HI.out]; simp)
        clear HI Hs
        go_wp2_with fail
        go_round
        case rel => exact ⟨k + 1, lb ++ ⟨#[32]⟩ ++ s, by omega, by go_num, rfl, by simp only [ByteArray.size_append, show (⟨#[32]⟩ : ByteArray).size = 1 from rfl]; omega, HI2⟩
        case measure => simp [intOf]; omega
      · obtain rfl : k = 2 := by omega
        have HF := Lib.hid (show R = (lb.data.toList, 0) by rw [HEnd.out, HI.out])
        clear HI
        go_wp2_with fail
        go_ret2
        exact ⟨by rw [HF.out]; simp, HW.out.2⟩
  · have HEnd := Lib.hid (HLst.out _ hl)
    have eA : (sA.toList == [48, 58, 48, 48]) = true := str_yes hA
    have eD : (sD.toList == [49]) = true := str_yes hD
    have eM : (sM.toList == [74, 97, 110]) = true := str_yes hM
    clear hA hD hM
    clear hl HLst HSz HCases
    go_wp2_with fail
    clear q0 q1 q2 q3
    go_loop [9, 17] (fun v i => ∃ (k : Nat) (lb : ByteArray), k ≤ 1 ∧ i = .int .i64 (k : Int) ∧ v = .string lb ∧ lb.size ≤ 100 + 40 * k ∧ Hid (lb.data.toList = lineK ⟨off, 0, 0, (⟨#[]⟩ : ByteArray).data.toList, sf.data.toList, ⟨true, y, m, (d1, d2, d3), (h1, h2)⟩⟩ k)) (fun _ i => 1 - (intOf i).toNat)
    case atStart => exact ⟨0, LB, by omega, rfl, rfl, by omega, HLB⟩
    case round =>
      obtain ⟨k, lb, hk, rfl, rfl, hsz, HI⟩ := hrel
      by_cases hlt : k < 1
      · obtain ⟨s, hc, Hs, hss⟩ := HCell.out k (by omega)
        have HI2 := Lib.hid (show (lb ++ ⟨#[32]⟩ ++ s).data.toList = lineK ⟨off, 0, 0, (⟨#[]⟩ : ByteArray).data.toList, sf.data.toList, ⟨true, y, m, (d1, d2, d3), (h1, h2)⟩⟩ (k + 1) by
          rw [lineK_succ (a := s.data.toList) (by rw [HFull.out]; exact Hs.out), ← HI.out]; simp)
        clear HI Hs
        go_wp2_with fail
        go_round
        case rel => exact ⟨k + 1, lb ++ ⟨#[32]⟩ ++ s, by omega, by go_num, rfl, by simp only [ByteArray.size_append, show (⟨#[32]⟩ : ByteArray).size = 1 from rfl]; omega, HI2⟩
        case measure => simp [intOf]; omega
      · obtain rfl : k = 1 := by omega
        have HF := Lib.hid (show R = (lb.data.toList, 0) by rw [HEnd.out, HI.out])
        clear HI
        go_wp2_with fail
        go_ret2
        exact ⟨by rw [HF.out]; simp, HW.out.2⟩

set_option maxRecDepth 100000 in
set_option maxHeartbeats 2000000 in
theorem r11print_k1 (off sv : Int) (sn sf : ByteArray) (is : Bool) (y m d1 d2 d3 h1 h2 : Int) (bo bs : ByteArray) (R : List UInt8 × Int) (w : World) (hsn : sn.size ≤ 1048576) (hsf : sf.size ≤ 1048576)
    (HOff : Hid (-604799 ≤ off ∧ off ≤ 604799)) (HSv : Hid (-604799 ≤ sv ∧ sv ≤ 604799)) (Hbo : Hid (offTx off = bo.data.toList)) (Hbs : Hid (offTx sv = bs.data.toList))
    (HN : Hid (¬ EraRight ⟨off, 1, sv, sn.data.toList, sf.data.toList, ⟨is, y, m, (d1, d2, d3), (h1, h2)⟩⟩ → R = ([], 2))) (HY : Hid (EraRight ⟨off, 1, sv, sn.data.toList, sf.data.toList, ⟨is, y, m, (d1, d2, d3), (h1, h2)⟩⟩ → R = (eraT ⟨off, 1, sv, sn.data.toList, sf.data.toList, ⟨is, y, m, (d1, d2, d3), (h1, h2)⟩⟩, 0)))
    (HP1 : Hid (∀ W, Calls Tryz.prog 77 #[.int .i64 off] W fun e w' => e = .returned (.tuple #[.string bo, .int .i64 0]) ∧ Below W.heap.size W w'))
    (HP2 : Hid (∀ W, Calls Tryz.prog 77 #[.int .i64 sv] W fun e w' => e = .returned (.tuple #[.string bs, .int .i64 0]) ∧ Below W.heap.size W w')) :
    Calls Tryz.prog 84 #[.agg #[.int .i64 off, .int .i64 1, .int .i64 sv, .string sn, .string sf, .bool is, .int .i64 y, .int .i64 m, .int .i64 d1, .int .i64 d2, .int .i64 d3, .int .i64 h1, .int .i64 h2]] w fun e w' => e = .returned (.tuple #[.string ⟨R.1.toArray⟩, .int .i64 R.2]) ∧ Below w.heap.size w w' := by
  have HWr := Lib.hid (fun W => calls_flip (r11written_any sf W hsf))
  have HRt := Lib.hid (fun W => r11right_any ⟨is, y, m, (d1, d2, d3), (h1, h2)⟩ W)
  simp only [UntilP.arr] at HRt
  have HSe := Lib.hid (fun W => eSet' sn W hsn)
  have HLn := Lib.hid (And.intro hsn hsf)
  clear hsn hsf
  have HB0 := Lib.hid (show ∀ o, Below w.heap.size w (w.alloc o) from fun o => (Below.refl _ _).alloc (Nat.le_refl _) o)
  go_enter Tryz.func84, Tryz.ntmps84
  go_wp2_with fail
  refine (HP1.out _).mono ?_
  rintro e w1 ⟨rfl, hb1⟩
  have HB1 := Lib.hid (And.intro ((Blk.new' w 55 #[.int .i64 off, .int .i64 1, .int .i64 sv, .string sn, .string sf, .bool is, .int .i64 y, .int .i64 m, .int .i64 d1, .int .i64 d2, .int .i64 d3, .int .i64 h1, .int .i64 h2] rfl).below hb1 (by simp)) ((HB0.out _).trans (hb1.mono (HB0.out _).size)))
  have c2 : w1.cell? ⟨w.heap.size, 2, none⟩ = some (.int .i64 sv) := HB1.out.1.cell_ rfl
  clear hb1 HB0 HP1
  go_wp2_with fail
  refine (HP2.out _).mono ?_
  rintro e w2 ⟨rfl, hb2⟩
  have HB2 := Lib.hid (And.intro (HB1.out.1.below hb2 HB1.out.1.lt) (HB1.out.2.trans (hb2.mono HB1.out.2.size)))
  clear hb2 HB1 HP2 c2
  have c0 : w2.cell? ⟨w.heap.size, 0, none⟩ = some (.int .i64 off) := HB2.out.1.cell_ rfl
  have c1 : w2.cell? ⟨w.heap.size, 1, none⟩ = some (.int .i64 1) := HB2.out.1.cell_ rfl
  have c2 : w2.cell? ⟨w.heap.size, 2, none⟩ = some (.int .i64 sv) := HB2.out.1.cell_ rfl
  have c3 : w2.cell? ⟨w.heap.size, 3, none⟩ = some (.string sn) := HB2.out.1.cell_ rfl
  have c4 : w2.cell? ⟨w.heap.size, 4, none⟩ = some (.string sf) := HB2.out.1.cell_ rfl
  have c5 : w2.cell? ⟨w.heap.size, 5, none⟩ = some (.bool is) := HB2.out.1.cell_ rfl
  have c6 : w2.cell? ⟨w.heap.size, 6, none⟩ = some (.int .i64 y) := HB2.out.1.cell_ rfl
  have c7 : w2.cell? ⟨w.heap.size, 7, none⟩ = some (.int .i64 m) := HB2.out.1.cell_ rfl
  have c8 : w2.cell? ⟨w.heap.size, 8, none⟩ = some (.int .i64 d1) := HB2.out.1.cell_ rfl
  have c9 : w2.cell? ⟨w.heap.size, 9, none⟩ = some (.int .i64 d2) := HB2.out.1.cell_ rfl
  have c10 : w2.cell? ⟨w.heap.size, 10, none⟩ = some (.int .i64 d3) := HB2.out.1.cell_ rfl
  have c11 : w2.cell? ⟨w.heap.size, 11, none⟩ = some (.int .i64 h1) := HB2.out.1.cell_ rfl
  have c12 : w2.cell? ⟨w.heap.size, 12, none⟩ = some (.int .i64 h2) := HB2.out.1.cell_ rfl
  go_upto_region 3 with fail
  cases hf : fmtB sf.data.toList
  case false =>
    have HR := Lib.hid (HN.out fun h => Bool.noConfusion (hf.symm.trans h.fmt))
    rw [hf] at HWr
    clear hf HN HY HRt HSe
    go_wp2_with fail
    refine (HWr.out _).mono ?_
    rintro e w3 ⟨rfl, rfl⟩
    go_wp2_with fail
    go_ret2
    exact ⟨by rw [HR.out]; rfl, HB2.out.2⟩
  rw [hf] at HWr
  have HFm := Lib.hid hf
  clear hf
  go_wp2_with fail
  refine (HWr.out _).mono ?_
  rintro e w3 ⟨rfl, rfl⟩
  go_wp2_with fail
  refine (HRt.out _).mono ?_
  rintro e w3 ⟨rfl, hb3⟩
  have HB3 := Lib.hid (And.intro (HB2.out.1.below hb3 HB2.out.1.lt) (HB2.out.2.trans (hb3.mono HB2.out.2.size)))
  clear hb3 HB2 HWr HRt c0 c1 c2 c3 c4 c5 c6 c7 c8 c9 c10 c11 c12
  have c0 : w3.cell? ⟨w.heap.size, 0, none⟩ = some (.int .i64 off) := HB3.out.1.cell_ rfl
  have c1 : w3.cell? ⟨w.heap.size, 1, none⟩ = some (.int .i64 1) := HB3.out.1.cell_ rfl
  have c2 : w3.cell? ⟨w.heap.size, 2, none⟩ = some (.int .i64 sv) := HB3.out.1.cell_ rfl
  have c3 : w3.cell? ⟨w.heap.size, 3, none⟩ = some (.string sn) := HB3.out.1.cell_ rfl
  have c4 : w3.cell? ⟨w.heap.size, 4, none⟩ = some (.string sf) := HB3.out.1.cell_ rfl
  have c5 : w3.cell? ⟨w.heap.size, 5, none⟩ = some (.bool is) := HB3.out.1.cell_ rfl
  have c6 : w3.cell? ⟨w.heap.size, 6, none⟩ = some (.int .i64 y) := HB3.out.1.cell_ rfl
  have c7 : w3.cell? ⟨w.heap.size, 7, none⟩ = some (.int .i64 m) := HB3.out.1.cell_ rfl
  have c8 : w3.cell? ⟨w.heap.size, 8, none⟩ = some (.int .i64 d1) := HB3.out.1.cell_ rfl
  have c9 : w3.cell? ⟨w.heap.size, 9, none⟩ = some (.int .i64 d2) := HB3.out.1.cell_ rfl
  have c10 : w3.cell? ⟨w.heap.size, 10, none⟩ = some (.int .i64 d3) := HB3.out.1.cell_ rfl
  have c11 : w3.cell? ⟨w.heap.size, 11, none⟩ = some (.int .i64 h1) := HB3.out.1.cell_ rfl
  have c12 : w3.cell? ⟨w.heap.size, 12, none⟩ = some (.int .i64 h2) := HB3.out.1.cell_ rfl
  cases hu : untilOk ⟨is, y, m, (d1, d2, d3), (h1, h2)⟩
  case false =>
    have HR := Lib.hid (HN.out fun h => Bool.noConfusion (hu.symm.trans ((untilOk_iff _).2 h.til)))
    clear hu HN HY HSe
    go_wp2_with fail
    go_ret2
    exact ⟨by rw [HR.out]; rfl, HB3.out.2⟩
  have HU := Lib.hid ((untilOk_iff _).1 hu)
  clear hu
  have hbe : (bs.toList == ([] : List UInt8)) = false := str_ne (fun h => by
    have h2 := off_pos sv
    rw [Hbs.out, h] at h2
    exact absurd h2 (by decide))
  by_cases hs0 : sn.data.toList = []
  case neg =>
    have HR := Lib.hid (HN.out fun h => hs0 (h.set0 (show (1 : Int) ≠ 2 by decide)))
    have hs1 := str_ne hs0
    have hs2 : (sn.toList != []) = true := by rw [bne_iff_ne, Lib.toList_data]; exact hs0
    clear hs0 HN HY HSe
    go_wp2_with fail
    go_ret2
    exact ⟨by rw [HR.out]; rfl, HB3.out.2⟩
  obtain rfl : sn = ⟨#[]⟩ := str_of hs0
  clear hs0 HSe
  have HRi := Lib.hid (show EraRight ⟨off, 1, sv, (⟨#[]⟩ : ByteArray).data.toList, sf.data.toList, ⟨is, y, m, (d1, d2, d3), (h1, h2)⟩⟩ from ⟨HOff.out, (show (0 : Int) ≤ 1 ∧ (1 : Int) ≤ 2 by decide), (fun h => absurd rfl h), fun _ => HSv.out, (fun h => absurd h (show ¬ (1 : Int) = 2 by decide)), fun _ => rfl, HFm.out, HU.out⟩)
  have HBy := Lib.hid (show byT ⟨off, 1, sv, (⟨#[]⟩ : ByteArray).data.toList, sf.data.toList, ⟨is, y, m, (d1, d2, d3), (h1, h2)⟩⟩ = bs.data.toList from Hbs.out)
  have HL0 := Lib.hid (show lineK ⟨off, 1, sv, (⟨#[]⟩ : ByteArray).data.toList, sf.data.toList, ⟨is, y, m, (d1, d2, d3), (h1, h2)⟩⟩ 0 = bo.data.toList ++ ([32] ++ (bs.data.toList ++ ([32] ++ sf.data.toList))) by
    rw [lineK, HBy.out]; simp only [Hbo.out, List.take_zero, List.flatMap_nil, List.append_nil])
  have hz1 : bo.size ≤ 30 := by
    have := off_len HOff.out
    rw [Hbo.out] at this
    rw [size_len]; omega
  have hz3 : sf.size ≤ 30 := by
    have := (fmt_plain HFm.out).2.2
    rw [size_len]; omega
  have hz2 : bs.size ≤ 30 := by
    have := by_len HRi.out
    rw [HBy.out] at this
    rw [size_len]; exact this
  have HR := Lib.hid (HY.out HRi.out)
  obtain ⟨LB, hLB⟩ : ∃ LB : ByteArray, bo ++ ⟨#[32]⟩ ++ bs ++ ⟨#[32]⟩ ++ sf = LB := ⟨_, rfl⟩
  have HLB := Lib.hid (show LB.data.toList = lineK ⟨off, 1, sv, (⟨#[]⟩ : ByteArray).data.toList, sf.data.toList, ⟨is, y, m, (d1, d2, d3), (h1, h2)⟩⟩ 0 by rw [HL0.out, ← hLB]; simp)
  have hzL : LB.size ≤ 100 := by rw [← hLB]; simp only [ByteArray.size_append, show (⟨#[32]⟩ : ByteArray).size = 1 from rfl, show (⟨#[45]⟩ : ByteArray).size = 1 from rfl]; omega
  have HLBe := Lib.hid hLB
  clear hLB HN HY HFm HOff HSv Hbo Hbs HLn HL0
  go_upto_region 16 with fail
  rw [HLBe.out]
  clear HLBe hz1 hz3 hz2
  cases is
  case false =>
    have HF := Lib.hid (show R = (LB.data.toList, 0) by rw [HR.out, HLB.out, lineK_none rfl])
    go_wp2_with fail
    go_ret2
    exact ⟨by rw [HF.out]; simp, HB3.out.2⟩
  obtain ⟨ny, hy, hy2, hy3⟩ := year_nat (HU.out.year rfl)
  obtain ⟨sY, hsY⟩ := asBl (Lib.decDigits ny)
  obtain ⟨sM, hsM⟩ := asBl (monthT m)
  obtain ⟨sD, hsD⟩ := asBl (dayText d1 d2 d3)
  obtain ⟨sA, hsA⟩ := asBl (clockT h1 h2)
  have HDc := Lib.hid (show ∀ W, Calls Tryz.prog 112 #[.int .i64 y] W fun e w' => e = .returned (.string sY) ∧ Below W.heap.size W w' from fun W => by
    have := decimal_any ny (by omega) W
    rwa [hsY, ba_back, ← hy] at this)
  have HMt := Lib.hid (show ∀ W, Calls Tryz.prog 82 #[.int .i64 m] W fun e w' => e = .returned (.string sM) ∧ Below W.heap.size W w' from fun W => by
    have := rmonthText_any m W
    rwa [hsM, ba_back] at this)
  have HDy := Lib.hid (show ∀ W, Calls Tryz.prog 75 #[.agg #[.int .i64 d1, .int .i64 d2, .int .i64 d3]] W fun e w' => e = .returned (.tuple #[.string sD, .int .i64 0]) ∧ Below W.heap.size W w' from fun W => by
    have := rprint_any d1 d2 d3 W
    rwa [show printR d1 d2 d3 = (dayText d1 d2 d3, 0) from if_pos (HU.out.day rfl), hsD, ba_back] at this)
  have HAt := Lib.hid (show ∀ W, Calls Tryz.prog 76 #[.agg #[.int .i64 h1, .int .i64 h2]] W fun e w' => e = .returned (.tuple #[.string sA, .int .i64 0]) ∧ Below W.heap.size W w' from fun W => by
    have := r6print_any h1 h2 W
    rwa [show clockPrintR h1 h2 = (clockT h1 h2, 0) from if_pos (HU.out.hour rfl), hsA, ba_back] at this)
  have HFull := Lib.hid (show untilFull ⟨true, y, m, (d1, d2, d3), (h1, h2)⟩ = [sY.data.toList, sM.data.toList, sD.data.toList, sA.data.toList] by
    simp only [untilFull, hsM, hsD, hsA, hy3, hsY])
  have HSz := Lib.hid (show ∀ a ∈ [sY.data.toList, sM.data.toList, sD.data.toList, sA.data.toList], a.length ≤ 30 by
    rw [← HFull.out]; exact full_len HRi.out rfl)
  have HCases := Lib.hid (show (sA.data.toList ≠ [48, 58, 48, 48] ∧ lastN ⟨true, y, m, (d1, d2, d3), (h1, h2)⟩ = 3) ∨ (sA.data.toList = [48, 58, 48, 48] ∧ sD.data.toList ≠ [49] ∧ lastN ⟨true, y, m, (d1, d2, d3), (h1, h2)⟩ = 2) ∨ (sA.data.toList = [48, 58, 48, 48] ∧ sD.data.toList = [49] ∧ sM.data.toList ≠ [74, 97, 110] ∧ lastN ⟨true, y, m, (d1, d2, d3), (h1, h2)⟩ = 1) ∨ (sA.data.toList = [48, 58, 48, 48] ∧ sD.data.toList = [49] ∧ sM.data.toList = [74, 97, 110] ∧ lastN ⟨true, y, m, (d1, d2, d3), (h1, h2)⟩ = 0) by
    have e1 := clock_zero (HU.out.hour rfl)
    have e2 := day_one (HU.out.day rfl)
    have e3 := mon_jan (HU.out.mon rfl)
    simp only [hsA] at e1
    simp only [hsD] at e2
    simp only [hsM] at e3
    unfold lastN
    simp only [e1, e2, e3, ne_eq]
    by_cases a1 : (h1, h2) = ((0, 0) : Int × Int)
    · by_cases a2 : (d1, d2, d3) = ((1, 0, 1) : Int × Int × Int)
      · by_cases a3 : m = 1
        · simp only [a1, a2, a3]; simp
        · simp only [a1, a2, a3]; simp
      · simp only [a1, a2]; simp
    · simp only [a1]; simp)
  have HLst := Lib.hid (show ∀ n, lastN ⟨true, y, m, (d1, d2, d3), (h1, h2)⟩ = n → R = (lineK ⟨off, 1, sv, (⟨#[]⟩ : ByteArray).data.toList, sf.data.toList, ⟨true, y, m, (d1, d2, d3), (h1, h2)⟩⟩ (1 + n), 0) from fun n hn => by
    rw [HR.out, ← hn]
    exact congrArg (·, 0) (lineK_all rfl).symm)
  clear hy hy2 hy3 hsY hsM hsD hsA HU HR HRi HBy
  go_upto_region 19 with fail
  have HU1 := Lib.hid (show Blk (w3.alloc (.cells #[.bool true, .int .i64 y, .int .i64 m, .int .i64 d1, .int .i64 d2, .int .i64 d3, .int .i64 h1, .int .i64 h2] 53)) w3.heap.size 53 #[.bool true, .int .i64 y, .int .i64 m, .int .i64 d1, .int .i64 d2, .int .i64 d3, .int .i64 h1, .int .i64 h2] ∧ Below w.heap.size w (w3.alloc (.cells #[.bool true, .int .i64 y, .int .i64 m, .int .i64 d1, .int .i64 d2, .int .i64 d3, .int .i64 h1, .int .i64 h2] 53)) from ⟨Blk.new' _ _ _ rfl, rbelow_alloc HB3.out.2 _⟩)
  clear HB3 c0 c1 c2 c3 c4 c5 c6 c7 c8 c9 c10 c11 c12
  go_wp2_with fail
  refine (HDy.out _).mono ?_
  rintro e w5 ⟨rfl, hb5⟩
  have HU2 := Lib.hid (And.intro (HU1.out.1.below hb5 HU1.out.1.lt) (HU1.out.2.trans (hb5.mono HU1.out.2.size)))
  clear HU1 hb5 HDy
  generalize w3.heap.size = g10 at *
  have q6 : w5.cell? ⟨g10, 6, none⟩ = some (.int .i64 h1) := HU2.out.1.cell_ rfl
  have q7 : w5.cell? ⟨g10, 7, none⟩ = some (.int .i64 h2) := HU2.out.1.cell_ rfl
  go_wp2_with fail
  refine (HAt.out _).mono ?_
  rintro e w6 ⟨rfl, hb6⟩
  have HU3 := Lib.hid (And.intro (HU2.out.1.below hb6 HU2.out.1.lt) (HU2.out.2.trans (hb6.mono HU2.out.2.size)))
  clear HU2 hb6 HAt q6 q7
  go_upto_region 21 with fail
  refine wp_region_rels 9 [[], [], [], [], [], [], [], [], []] [Form.val, Form.val, Form.val, Form.val, Form.val, Form.val, Form.val, Form.val, Form.rel (TabE #[.string sY, .string sM, .string sD, .string sA])] (fun W => Blk W g10 53 #[.bool true, .int .i64 y, .int .i64 m, .int .i64 d1, .int .i64 d2, .int .i64 d3, .int .i64 h1, .int .i64 h2] ∧ Below w.heap.size w W) (by kernel_rfl) (by kernel_rfl) rfl rfl (⟨HU3.out.1, HU3.out.2.drew⟩) (fun W W' h hb => ⟨h.1.below hb h.1.lt, h.2.trans (hb.mono h.2.size)⟩) ⟨TabE.lasts _, trivial⟩ ?_
  repeat (first | apply exSpec_rel | apply exSpec_new | apply exSpec_val)
  apply relWalk_ex rfl ?o0 (fun K hK => ?n0)
  case o0 =>
    intro W hC hF
    have q1 : W.cell? ⟨g10, 1, none⟩ = some (.int .i64 y) := hC.1.cell_ rfl
    have q2 : W.cell? ⟨g10, 2, none⟩ = some (.int .i64 m) := hC.1.cell_ rfl
    go_simp
    all_goals exact ⟨Below.refl _ _, rfl⟩
  case' n0 =>
    go_simp
    refine hK _ ?_
    clear hK K
  apply relWalk_ex rfl ?o1 (fun K hK => ?n1)
  case o1 =>
    intro W hC hF
    have q1 : W.cell? ⟨g10, 1, none⟩ = some (.int .i64 y) := hC.1.cell_ rfl
    have q2 : W.cell? ⟨g10, 2, none⟩ = some (.int .i64 m) := hC.1.cell_ rfl
    go_simp
    all_goals exact ⟨Below.refl _ _, rfl⟩
  case' n1 =>
    go_simp
    refine hK _ ?_
    clear hK K
  apply relWalk_ex rfl ?o2 (fun K hK => ?n2)
  case o2 =>
    intro W hC hF
    have q1 : W.cell? ⟨g10, 1, none⟩ = some (.int .i64 y) := hC.1.cell_ rfl
    have q2 : W.cell? ⟨g10, 2, none⟩ = some (.int .i64 m) := hC.1.cell_ rfl
    go_simp
    all_goals exact HDc.out W
  case' n2 =>
    go_simp
    refine hK _ ?_
    clear hK K
  apply relWalk_ex rfl ?o3 (fun K hK => ?n3)
  case o3 =>
    intro W hC hF
    have q1 : W.cell? ⟨g10, 1, none⟩ = some (.int .i64 y) := hC.1.cell_ rfl
    have q2 : W.cell? ⟨g10, 2, none⟩ = some (.int .i64 m) := hC.1.cell_ rfl
    go_simp
    all_goals exact ⟨Below.refl _ _, rfl⟩
  case' n3 =>
    go_simp
    refine hK _ ?_
    clear hK K
  apply relWalk_ex rfl ?o4 (fun K hK => ?n4)
  case o4 =>
    intro W hC hF
    have q1 : W.cell? ⟨g10, 1, none⟩ = some (.int .i64 y) := hC.1.cell_ rfl
    have q2 : W.cell? ⟨g10, 2, none⟩ = some (.int .i64 m) := hC.1.cell_ rfl
    go_simp
    all_goals exact ⟨Below.refl _ _, rfl⟩
  case' n4 =>
    go_simp
    refine hK _ ?_
    clear hK K
  apply relWalk_ex rfl ?o5 (fun K hK => ?n5)
  case o5 =>
    intro W hC hF
    have q1 : W.cell? ⟨g10, 1, none⟩ = some (.int .i64 y) := hC.1.cell_ rfl
    have q2 : W.cell? ⟨g10, 2, none⟩ = some (.int .i64 m) := hC.1.cell_ rfl
    go_simp
    all_goals exact HMt.out W
  case' n5 =>
    go_simp
    refine hK _ ?_
    clear hK K
  apply relWalk_ex rfl ?o6 (fun K hK => ?n6)
  case o6 =>
    intro W hC hF
    have q1 : W.cell? ⟨g10, 1, none⟩ = some (.int .i64 y) := hC.1.cell_ rfl
    have q2 : W.cell? ⟨g10, 2, none⟩ = some (.int .i64 m) := hC.1.cell_ rfl
    go_simp
    all_goals exact ⟨Below.refl _ _, rfl⟩
  case' n6 =>
    go_simp
    refine hK _ ?_
    clear hK K
  apply relWalk_ex rfl ?o7 (fun K hK => ?n7)
  case o7 =>
    intro W hC hF
    have q1 : W.cell? ⟨g10, 1, none⟩ = some (.int .i64 y) := hC.1.cell_ rfl
    have q2 : W.cell? ⟨g10, 2, none⟩ = some (.int .i64 m) := hC.1.cell_ rfl
    go_simp
    all_goals exact ⟨Below.refl _ _, rfl⟩
  case' n7 =>
    go_simp
    refine hK _ ?_
    clear hK K
  apply relWalk_rel rfl ?o8 (fun u8 K hK => ?n8)
  case o8 =>
    intro W hC hF
    have q1 : W.cell? ⟨g10, 1, none⟩ = some (.int .i64 y) := hC.1.cell_ rfl
    have q2 : W.cell? ⟨g10, 2, none⟩ = some (.int .i64 m) := hC.1.cell_ rfl
    go_simp
    all_goals exact ⟨by go_grown, _, rfl, Blk.new _ _ _⟩
  case' n8 =>
    go_simp
    refine hK _ ?_
    clear hK K
  apply relWalk_end
  intro W hC hF hU
  obtain ⟨⟨g, rfl, hB⟩, -⟩ := hF
  have HW := Lib.hid (And.intro hB hC.2)
  clear hB hC HU3 HDc HMt
  have q0 : W.cell? ⟨g, 0, none⟩ = some (.string sY) := HW.out.1.cell_ rfl
  have q1 : W.cell? ⟨g, 1, none⟩ = some (.string sM) := HW.out.1.cell_ rfl
  have q2 : W.cell? ⟨g, 2, none⟩ = some (.string sD) := HW.out.1.cell_ rfl
  have q3 : W.cell? ⟨g, 3, none⟩ = some (.string sA) := HW.out.1.cell_ rfl
  have HCell := Lib.hid (show ∀ k, k < 4 → ∃ s : ByteArray, W.cell? ⟨g, k, none⟩ = some (.string s) ∧ Hid ([sY.data.toList, sM.data.toList, sD.data.toList, sA.data.toList][k]? = some s.data.toList) ∧ s.size ≤ 30 from fun k hk => by
    rcases (by omega : k = 0 ∨ k = 1 ∨ k = 2 ∨ k = 3) with rfl | rfl | rfl | rfl
    · exact ⟨sY, q0, rfl, HSz.out _ (by simp)⟩
    · exact ⟨sM, q1, rfl, HSz.out _ (by simp)⟩
    · exact ⟨sD, q2, rfl, HSz.out _ (by simp)⟩
    · exact ⟨sA, q3, rfl, HSz.out _ (by simp)⟩)
  go_upto_region 22 with fail
  rcases HCases.out with ⟨hA, hl⟩ | ⟨hA, hD, hl⟩ | ⟨hA, hD, hM, hl⟩ | ⟨hA, hD, hM, hl⟩
  · have HEnd := Lib.hid (HLst.out _ hl)
    have eA : (sA.toList == [48, 58, 48, 48]) = false := str_ne hA
    clear hA
    clear hl HLst HSz HCases
    go_wp2_with fail
    clear q0 q1 q2 q3
    go_loop [9, 17] (fun v i => ∃ (k : Nat) (lb : ByteArray), k ≤ 4 ∧ i = .int .i64 (k : Int) ∧ v = .string lb ∧ lb.size ≤ 100 + 40 * k ∧ Hid (lb.data.toList = lineK ⟨off, 1, sv, (⟨#[]⟩ : ByteArray).data.toList, sf.data.toList, ⟨true, y, m, (d1, d2, d3), (h1, h2)⟩⟩ k)) (fun _ i => 4 - (intOf i).toNat)
    case atStart => exact ⟨0, LB, by omega, rfl, rfl, by omega, HLB⟩
    case round =>
      obtain ⟨k, lb, hk, rfl, rfl, hsz, HI⟩ := hrel
      by_cases hlt : k < 4
      · obtain ⟨s, hc, Hs, hss⟩ := HCell.out k (by omega)
        have HI2 := Lib.hid (show (lb ++ ⟨#[32]⟩ ++ s).data.toList = lineK ⟨off, 1, sv, (⟨#[]⟩ : ByteArray).data.toList, sf.data.toList, ⟨true, y, m, (d1, d2, d3), (h1, h2)⟩⟩ (k + 1) by
          rw [lineK_succ (a := s.data.toList) (by rw [HFull.out]; exact Hs.out), ← HI.out]; simp)
        clear HI Hs
        go_wp2_with fail
        go_round
        case rel => exact ⟨k + 1, lb ++ ⟨#[32]⟩ ++ s, by omega, by go_num, rfl, by simp only [ByteArray.size_append, show (⟨#[32]⟩ : ByteArray).size = 1 from rfl]; omega, HI2⟩
        case measure => simp [intOf]; omega
      · obtain rfl : k = 4 := by omega
        have HF := Lib.hid (show R = (lb.data.toList, 0) by rw [HEnd.out, HI.out])
        clear HI
        go_wp2_with fail
        go_ret2
        exact ⟨by rw [HF.out]; simp, HW.out.2⟩
  · have HEnd := Lib.hid (HLst.out _ hl)
    have eA : (sA.toList == [48, 58, 48, 48]) = true := str_yes hA
    have eD : (sD.toList == [49]) = false := str_ne hD
    clear hA hD
    clear hl HLst HSz HCases
    go_wp2_with fail
    clear q0 q1 q2 q3
    go_loop [9, 17] (fun v i => ∃ (k : Nat) (lb : ByteArray), k ≤ 3 ∧ i = .int .i64 (k : Int) ∧ v = .string lb ∧ lb.size ≤ 100 + 40 * k ∧ Hid (lb.data.toList = lineK ⟨off, 1, sv, (⟨#[]⟩ : ByteArray).data.toList, sf.data.toList, ⟨true, y, m, (d1, d2, d3), (h1, h2)⟩⟩ k)) (fun _ i => 3 - (intOf i).toNat)
    case atStart => exact ⟨0, LB, by omega, rfl, rfl, by omega, HLB⟩
    case round =>
      obtain ⟨k, lb, hk, rfl, rfl, hsz, HI⟩ := hrel
      by_cases hlt : k < 3
      · obtain ⟨s, hc, Hs, hss⟩ := HCell.out k (by omega)
        have HI2 := Lib.hid (show (lb ++ ⟨#[32]⟩ ++ s).data.toList = lineK ⟨off, 1, sv, (⟨#[]⟩ : ByteArray).data.toList, sf.data.toList, ⟨true, y, m, (d1, d2, d3), (h1, h2)⟩⟩ (k + 1) by
          rw [lineK_succ (a := s.data.toList) (by rw [HFull.out]; exact Hs.out), ← HI.out]; simp)
        clear HI Hs
        go_wp2_with fail
        go_round
        case rel => exact ⟨k + 1, lb ++ ⟨#[32]⟩ ++ s, by omega, by go_num, rfl, by simp only [ByteArray.size_append, show (⟨#[32]⟩ : ByteArray).size = 1 from rfl]; omega, HI2⟩
        case measure => simp [intOf]; omega
      · obtain rfl : k = 3 := by omega
        have HF := Lib.hid (show R = (lb.data.toList, 0) by rw [HEnd.out, HI.out])
        clear HI
        go_wp2_with fail
        go_ret2
        exact ⟨by rw [HF.out]; simp, HW.out.2⟩
  · have HEnd := Lib.hid (HLst.out _ hl)
    have eA : (sA.toList == [48, 58, 48, 48]) = true := str_yes hA
    have eD : (sD.toList == [49]) = true := str_yes hD
    have eM : (sM.toList == [74, 97, 110]) = false := str_ne hM
    clear hA hD hM
    clear hl HLst HSz HCases
    go_wp2_with fail
    clear q0 q1 q2 q3
    go_loop [9, 17] (fun v i => ∃ (k : Nat) (lb : ByteArray), k ≤ 2 ∧ i = .int .i64 (k : Int) ∧ v = .string lb ∧ lb.size ≤ 100 + 40 * k ∧ Hid (lb.data.toList = lineK ⟨off, 1, sv, (⟨#[]⟩ : ByteArray).data.toList, sf.data.toList, ⟨true, y, m, (d1, d2, d3), (h1, h2)⟩⟩ k)) (fun _ i => 2 - (intOf i).toNat)
    case atStart => exact ⟨0, LB, by omega, rfl, rfl, by omega, HLB⟩
    case round =>
      obtain ⟨k, lb, hk, rfl, rfl, hsz, HI⟩ := hrel
      by_cases hlt : k < 2
      · obtain ⟨s, hc, Hs, hss⟩ := HCell.out k (by omega)
        have HI2 := Lib.hid (show (lb ++ ⟨#[32]⟩ ++ s).data.toList = lineK ⟨off, 1, sv, (⟨#[]⟩ : ByteArray).data.toList, sf.data.toList, ⟨true, y, m, (d1, d2, d3), (h1, h2)⟩⟩ (k + 1) by
          rw [lineK_succ (a := s.data.toList) (by rw [HFull.out]; exact Hs.out), ← HI.out]; simp)
        clear HI Hs
        go_wp2_with fail
        go_round
        case rel => exact ⟨k + 1, lb ++ ⟨#[32]⟩ ++ s, by omega, by go_num, rfl, by simp only [ByteArray.size_append, show (⟨#[32]⟩ : ByteArray).size = 1 from rfl]; omega, HI2⟩
        case measure => simp [intOf]; omega
      · obtain rfl : k = 2 := by omega
        have HF := Lib.hid (show R = (lb.data.toList, 0) by rw [HEnd.out, HI.out])
        clear HI
        go_wp2_with fail
        go_ret2
        exact ⟨by rw [HF.out]; simp, HW.out.2⟩
  · have HEnd := Lib.hid (HLst.out _ hl)
    have eA : (sA.toList == [48, 58, 48, 48]) = true := str_yes hA
    have eD : (sD.toList == [49]) = true := str_yes hD
    have eM : (sM.toList == [74, 97, 110]) = true := str_yes hM
    clear hA hD hM
    clear hl HLst HSz HCases
    go_wp2_with fail
    clear q0 q1 q2 q3
    go_loop [9, 17] (fun v i => ∃ (k : Nat) (lb : ByteArray), k ≤ 1 ∧ i = .int .i64 (k : Int) ∧ v = .string lb ∧ lb.size ≤ 100 + 40 * k ∧ Hid (lb.data.toList = lineK ⟨off, 1, sv, (⟨#[]⟩ : ByteArray).data.toList, sf.data.toList, ⟨true, y, m, (d1, d2, d3), (h1, h2)⟩⟩ k)) (fun _ i => 1 - (intOf i).toNat)
    case atStart => exact ⟨0, LB, by omega, rfl, rfl, by omega, HLB⟩
    case round =>
      obtain ⟨k, lb, hk, rfl, rfl, hsz, HI⟩ := hrel
      by_cases hlt : k < 1
      · obtain ⟨s, hc, Hs, hss⟩ := HCell.out k (by omega)
        have HI2 := Lib.hid (show (lb ++ ⟨#[32]⟩ ++ s).data.toList = lineK ⟨off, 1, sv, (⟨#[]⟩ : ByteArray).data.toList, sf.data.toList, ⟨true, y, m, (d1, d2, d3), (h1, h2)⟩⟩ (k + 1) by
          rw [lineK_succ (a := s.data.toList) (by rw [HFull.out]; exact Hs.out), ← HI.out]; simp)
        clear HI Hs
        go_wp2_with fail
        go_round
        case rel => exact ⟨k + 1, lb ++ ⟨#[32]⟩ ++ s, by omega, by go_num, rfl, by simp only [ByteArray.size_append, show (⟨#[32]⟩ : ByteArray).size = 1 from rfl]; omega, HI2⟩
        case measure => simp [intOf]; omega
      · obtain rfl : k = 1 := by omega
        have HF := Lib.hid (show R = (lb.data.toList, 0) by rw [HEnd.out, HI.out])
        clear HI
        go_wp2_with fail
        go_ret2
        exact ⟨by rw [HF.out]; simp, HW.out.2⟩

set_option maxRecDepth 100000 in
set_option maxHeartbeats 2000000 in
theorem r11print_k2 (off sv : Int) (sn sf : ByteArray) (is : Bool) (y m d1 d2 d3 h1 h2 : Int) (bo bs : ByteArray) (R : List UInt8 × Int) (w : World) (hsn : sn.size ≤ 1048576) (hsf : sf.size ≤ 1048576)
    (HOff : Hid (-604799 ≤ off ∧ off ≤ 604799)) (HSv : Hid (-604799 ≤ sv ∧ sv ≤ 604799)) (Hbo : Hid (offTx off = bo.data.toList)) (Hbs : Hid (offTx sv = bs.data.toList))
    (HN : Hid (¬ EraRight ⟨off, 2, sv, sn.data.toList, sf.data.toList, ⟨is, y, m, (d1, d2, d3), (h1, h2)⟩⟩ → R = ([], 2))) (HY : Hid (EraRight ⟨off, 2, sv, sn.data.toList, sf.data.toList, ⟨is, y, m, (d1, d2, d3), (h1, h2)⟩⟩ → R = (eraT ⟨off, 2, sv, sn.data.toList, sf.data.toList, ⟨is, y, m, (d1, d2, d3), (h1, h2)⟩⟩, 0)))
    (HP1 : Hid (∀ W, Calls Tryz.prog 77 #[.int .i64 off] W fun e w' => e = .returned (.tuple #[.string bo, .int .i64 0]) ∧ Below W.heap.size W w'))
    (HP2 : Hid (∀ W, Calls Tryz.prog 77 #[.int .i64 sv] W fun e w' => e = .returned (.tuple #[.string bs, .int .i64 0]) ∧ Below W.heap.size W w')) :
    Calls Tryz.prog 84 #[.agg #[.int .i64 off, .int .i64 2, .int .i64 sv, .string sn, .string sf, .bool is, .int .i64 y, .int .i64 m, .int .i64 d1, .int .i64 d2, .int .i64 d3, .int .i64 h1, .int .i64 h2]] w fun e w' => e = .returned (.tuple #[.string ⟨R.1.toArray⟩, .int .i64 R.2]) ∧ Below w.heap.size w w' := by
  have HWr := Lib.hid (fun W => calls_flip (r11written_any sf W hsf))
  have HRt := Lib.hid (fun W => r11right_any ⟨is, y, m, (d1, d2, d3), (h1, h2)⟩ W)
  simp only [UntilP.arr] at HRt
  have HSe := Lib.hid (fun W => eSet' sn W hsn)
  have HLn := Lib.hid (And.intro hsn hsf)
  clear hsn hsf
  have HB0 := Lib.hid (show ∀ o, Below w.heap.size w (w.alloc o) from fun o => (Below.refl _ _).alloc (Nat.le_refl _) o)
  go_enter Tryz.func84, Tryz.ntmps84
  go_wp2_with fail
  refine (HP1.out _).mono ?_
  rintro e w1 ⟨rfl, hb1⟩
  have HB1 := Lib.hid (And.intro ((Blk.new' w 55 #[.int .i64 off, .int .i64 2, .int .i64 sv, .string sn, .string sf, .bool is, .int .i64 y, .int .i64 m, .int .i64 d1, .int .i64 d2, .int .i64 d3, .int .i64 h1, .int .i64 h2] rfl).below hb1 (by simp)) ((HB0.out _).trans (hb1.mono (HB0.out _).size)))
  have c2 : w1.cell? ⟨w.heap.size, 2, none⟩ = some (.int .i64 sv) := HB1.out.1.cell_ rfl
  clear hb1 HB0 HP1
  go_wp2_with fail
  refine (HP2.out _).mono ?_
  rintro e w2 ⟨rfl, hb2⟩
  have HB2 := Lib.hid (And.intro (HB1.out.1.below hb2 HB1.out.1.lt) (HB1.out.2.trans (hb2.mono HB1.out.2.size)))
  clear hb2 HB1 HP2 c2
  have c0 : w2.cell? ⟨w.heap.size, 0, none⟩ = some (.int .i64 off) := HB2.out.1.cell_ rfl
  have c1 : w2.cell? ⟨w.heap.size, 1, none⟩ = some (.int .i64 2) := HB2.out.1.cell_ rfl
  have c2 : w2.cell? ⟨w.heap.size, 2, none⟩ = some (.int .i64 sv) := HB2.out.1.cell_ rfl
  have c3 : w2.cell? ⟨w.heap.size, 3, none⟩ = some (.string sn) := HB2.out.1.cell_ rfl
  have c4 : w2.cell? ⟨w.heap.size, 4, none⟩ = some (.string sf) := HB2.out.1.cell_ rfl
  have c5 : w2.cell? ⟨w.heap.size, 5, none⟩ = some (.bool is) := HB2.out.1.cell_ rfl
  have c6 : w2.cell? ⟨w.heap.size, 6, none⟩ = some (.int .i64 y) := HB2.out.1.cell_ rfl
  have c7 : w2.cell? ⟨w.heap.size, 7, none⟩ = some (.int .i64 m) := HB2.out.1.cell_ rfl
  have c8 : w2.cell? ⟨w.heap.size, 8, none⟩ = some (.int .i64 d1) := HB2.out.1.cell_ rfl
  have c9 : w2.cell? ⟨w.heap.size, 9, none⟩ = some (.int .i64 d2) := HB2.out.1.cell_ rfl
  have c10 : w2.cell? ⟨w.heap.size, 10, none⟩ = some (.int .i64 d3) := HB2.out.1.cell_ rfl
  have c11 : w2.cell? ⟨w.heap.size, 11, none⟩ = some (.int .i64 h1) := HB2.out.1.cell_ rfl
  have c12 : w2.cell? ⟨w.heap.size, 12, none⟩ = some (.int .i64 h2) := HB2.out.1.cell_ rfl
  go_upto_region 3 with fail
  cases hf : fmtB sf.data.toList
  case false =>
    have HR := Lib.hid (HN.out fun h => Bool.noConfusion (hf.symm.trans h.fmt))
    rw [hf] at HWr
    clear hf HN HY HRt HSe
    go_wp2_with fail
    refine (HWr.out _).mono ?_
    rintro e w3 ⟨rfl, rfl⟩
    go_wp2_with fail
    go_ret2
    exact ⟨by rw [HR.out]; rfl, HB2.out.2⟩
  rw [hf] at HWr
  have HFm := Lib.hid hf
  clear hf
  go_wp2_with fail
  refine (HWr.out _).mono ?_
  rintro e w3 ⟨rfl, rfl⟩
  go_wp2_with fail
  refine (HRt.out _).mono ?_
  rintro e w3 ⟨rfl, hb3⟩
  have HB3 := Lib.hid (And.intro (HB2.out.1.below hb3 HB2.out.1.lt) (HB2.out.2.trans (hb3.mono HB2.out.2.size)))
  clear hb3 HB2 HWr HRt c0 c1 c2 c3 c4 c5 c6 c7 c8 c9 c10 c11 c12
  have c0 : w3.cell? ⟨w.heap.size, 0, none⟩ = some (.int .i64 off) := HB3.out.1.cell_ rfl
  have c1 : w3.cell? ⟨w.heap.size, 1, none⟩ = some (.int .i64 2) := HB3.out.1.cell_ rfl
  have c2 : w3.cell? ⟨w.heap.size, 2, none⟩ = some (.int .i64 sv) := HB3.out.1.cell_ rfl
  have c3 : w3.cell? ⟨w.heap.size, 3, none⟩ = some (.string sn) := HB3.out.1.cell_ rfl
  have c4 : w3.cell? ⟨w.heap.size, 4, none⟩ = some (.string sf) := HB3.out.1.cell_ rfl
  have c5 : w3.cell? ⟨w.heap.size, 5, none⟩ = some (.bool is) := HB3.out.1.cell_ rfl
  have c6 : w3.cell? ⟨w.heap.size, 6, none⟩ = some (.int .i64 y) := HB3.out.1.cell_ rfl
  have c7 : w3.cell? ⟨w.heap.size, 7, none⟩ = some (.int .i64 m) := HB3.out.1.cell_ rfl
  have c8 : w3.cell? ⟨w.heap.size, 8, none⟩ = some (.int .i64 d1) := HB3.out.1.cell_ rfl
  have c9 : w3.cell? ⟨w.heap.size, 9, none⟩ = some (.int .i64 d2) := HB3.out.1.cell_ rfl
  have c10 : w3.cell? ⟨w.heap.size, 10, none⟩ = some (.int .i64 d3) := HB3.out.1.cell_ rfl
  have c11 : w3.cell? ⟨w.heap.size, 11, none⟩ = some (.int .i64 h1) := HB3.out.1.cell_ rfl
  have c12 : w3.cell? ⟨w.heap.size, 12, none⟩ = some (.int .i64 h2) := HB3.out.1.cell_ rfl
  cases hu : untilOk ⟨is, y, m, (d1, d2, d3), (h1, h2)⟩
  case false =>
    have HR := Lib.hid (HN.out fun h => Bool.noConfusion (hu.symm.trans ((untilOk_iff _).2 h.til)))
    clear hu HN HY HSe
    go_wp2_with fail
    go_ret2
    exact ⟨by rw [HR.out]; rfl, HB3.out.2⟩
  have HU := Lib.hid ((untilOk_iff _).1 hu)
  clear hu
  by_cases hs0 : sn.data.toList = []
  case pos =>
    have HR := Lib.hid (HN.out fun h => by have := h.set2 rfl; simp only [hs0, setB_nil] at this; exact Bool.noConfusion this)
    obtain rfl : sn = ⟨#[]⟩ := str_of hs0
    clear hs0 HN HY HSe
    go_wp2_with fail
    go_ret2
    exact ⟨by rw [HR.out]; rfl, HB3.out.2⟩
  have hs1 := str_ne hs0
  have hs2 : (sn.toList != []) = true := by rw [bne_iff_ne, Lib.toList_data]; exact hs0
  clear hs0
  by_cases hv0 : sv = 0
  case neg =>
    have HR := Lib.hid (HN.out fun h => hv0 (h.save0 (show (2 : Int) ≠ 1 by decide)))
    have hv1 : (sv != 0) = true := bne_iff_ne.2 hv0
    have hv2 : (sv == 0) = false := beq_eq_false_iff_ne.2 hv0
    clear hv0 HN HY HSe
    go_wp2_with fail
    go_ret2
    exact ⟨by rw [HR.out]; rfl, HB3.out.2⟩
  subst hv0
  cases hst : setB sn.data.toList
  case false =>
    have HR := Lib.hid (HN.out fun h => Bool.noConfusion (hst.symm.trans (h.set2 rfl)))
    rw [hst] at HSe
    clear hst HN HY
    go_wp2_with fail
    refine (HSe.out _).mono ?_
    rintro e w4 ⟨rfl, rfl⟩
    go_wp2_with fail
    go_ret2
    exact ⟨by rw [HR.out]; rfl, HB3.out.2⟩
  rw [hst] at HSe
  have HRi := Lib.hid (show EraRight ⟨off, 2, 0, sn.data.toList, sf.data.toList, ⟨is, y, m, (d1, d2, d3), (h1, h2)⟩⟩ from ⟨HOff.out, (show (0 : Int) ≤ 2 ∧ (2 : Int) ≤ 2 by decide), fun _ => rfl, (fun h => absurd h (show ¬ (2 : Int) = 1 by decide)), fun _ => hst, (fun h => absurd rfl h), HFm.out, HU.out⟩)
  have HBy := Lib.hid (show byT ⟨off, 2, 0, sn.data.toList, sf.data.toList, ⟨is, y, m, (d1, d2, d3), (h1, h2)⟩⟩ = sn.data.toList from rfl)
  have HL0 := Lib.hid (show lineK ⟨off, 2, 0, sn.data.toList, sf.data.toList, ⟨is, y, m, (d1, d2, d3), (h1, h2)⟩⟩ 0 = bo.data.toList ++ ([32] ++ (sn.data.toList ++ ([32] ++ sf.data.toList))) by
    rw [lineK, HBy.out]; simp only [Hbo.out, List.take_zero, List.flatMap_nil, List.append_nil])
  have hz1 : bo.size ≤ 30 := by
    have := off_len HOff.out
    rw [Hbo.out] at this
    rw [size_len]; omega
  have hz3 : sf.size ≤ 30 := by
    have := (fmt_plain HFm.out).2.2
    rw [size_len]; omega
  have hz2 : sn.size ≤ 30 := by
    have := by_len HRi.out
    rw [HBy.out] at this
    rw [size_len]; exact this
  clear hst
  have HR := Lib.hid (HY.out HRi.out)
  obtain ⟨LB, hLB⟩ : ∃ LB : ByteArray, bo ++ ⟨#[32]⟩ ++ sn ++ ⟨#[32]⟩ ++ sf = LB := ⟨_, rfl⟩
  have HLB := Lib.hid (show LB.data.toList = lineK ⟨off, 2, 0, sn.data.toList, sf.data.toList, ⟨is, y, m, (d1, d2, d3), (h1, h2)⟩⟩ 0 by rw [HL0.out, ← hLB]; simp)
  have hzL : LB.size ≤ 100 := by rw [← hLB]; simp only [ByteArray.size_append, show (⟨#[32]⟩ : ByteArray).size = 1 from rfl, show (⟨#[45]⟩ : ByteArray).size = 1 from rfl]; omega
  have HLBe := Lib.hid hLB
  clear hLB HN HY HFm HOff HSv Hbo Hbs HLn HL0
  go_wp2_with fail
  refine (HSe.out _).mono ?_
  rintro e w4 ⟨rfl, rfl⟩
  clear HSe
  go_upto_region 16 with fail
  rw [HLBe.out]
  clear HLBe hz1 hz3 hz2
  cases is
  case false =>
    have HF := Lib.hid (show R = (LB.data.toList, 0) by rw [HR.out, HLB.out, lineK_none rfl])
    go_wp2_with fail
    go_ret2
    exact ⟨by rw [HF.out]; simp, HB3.out.2⟩
  obtain ⟨ny, hy, hy2, hy3⟩ := year_nat (HU.out.year rfl)
  obtain ⟨sY, hsY⟩ := asBl (Lib.decDigits ny)
  obtain ⟨sM, hsM⟩ := asBl (monthT m)
  obtain ⟨sD, hsD⟩ := asBl (dayText d1 d2 d3)
  obtain ⟨sA, hsA⟩ := asBl (clockT h1 h2)
  have HDc := Lib.hid (show ∀ W, Calls Tryz.prog 112 #[.int .i64 y] W fun e w' => e = .returned (.string sY) ∧ Below W.heap.size W w' from fun W => by
    have := decimal_any ny (by omega) W
    rwa [hsY, ba_back, ← hy] at this)
  have HMt := Lib.hid (show ∀ W, Calls Tryz.prog 82 #[.int .i64 m] W fun e w' => e = .returned (.string sM) ∧ Below W.heap.size W w' from fun W => by
    have := rmonthText_any m W
    rwa [hsM, ba_back] at this)
  have HDy := Lib.hid (show ∀ W, Calls Tryz.prog 75 #[.agg #[.int .i64 d1, .int .i64 d2, .int .i64 d3]] W fun e w' => e = .returned (.tuple #[.string sD, .int .i64 0]) ∧ Below W.heap.size W w' from fun W => by
    have := rprint_any d1 d2 d3 W
    rwa [show printR d1 d2 d3 = (dayText d1 d2 d3, 0) from if_pos (HU.out.day rfl), hsD, ba_back] at this)
  have HAt := Lib.hid (show ∀ W, Calls Tryz.prog 76 #[.agg #[.int .i64 h1, .int .i64 h2]] W fun e w' => e = .returned (.tuple #[.string sA, .int .i64 0]) ∧ Below W.heap.size W w' from fun W => by
    have := r6print_any h1 h2 W
    rwa [show clockPrintR h1 h2 = (clockT h1 h2, 0) from if_pos (HU.out.hour rfl), hsA, ba_back] at this)
  have HFull := Lib.hid (show untilFull ⟨true, y, m, (d1, d2, d3), (h1, h2)⟩ = [sY.data.toList, sM.data.toList, sD.data.toList, sA.data.toList] by
    simp only [untilFull, hsM, hsD, hsA, hy3, hsY])
  have HSz := Lib.hid (show ∀ a ∈ [sY.data.toList, sM.data.toList, sD.data.toList, sA.data.toList], a.length ≤ 30 by
    rw [← HFull.out]; exact full_len HRi.out rfl)
  have HCases := Lib.hid (show (sA.data.toList ≠ [48, 58, 48, 48] ∧ lastN ⟨true, y, m, (d1, d2, d3), (h1, h2)⟩ = 3) ∨ (sA.data.toList = [48, 58, 48, 48] ∧ sD.data.toList ≠ [49] ∧ lastN ⟨true, y, m, (d1, d2, d3), (h1, h2)⟩ = 2) ∨ (sA.data.toList = [48, 58, 48, 48] ∧ sD.data.toList = [49] ∧ sM.data.toList ≠ [74, 97, 110] ∧ lastN ⟨true, y, m, (d1, d2, d3), (h1, h2)⟩ = 1) ∨ (sA.data.toList = [48, 58, 48, 48] ∧ sD.data.toList = [49] ∧ sM.data.toList = [74, 97, 110] ∧ lastN ⟨true, y, m, (d1, d2, d3), (h1, h2)⟩ = 0) by
    have e1 := clock_zero (HU.out.hour rfl)
    have e2 := day_one (HU.out.day rfl)
    have e3 := mon_jan (HU.out.mon rfl)
    simp only [hsA] at e1
    simp only [hsD] at e2
    simp only [hsM] at e3
    unfold lastN
    simp only [e1, e2, e3, ne_eq]
    by_cases a1 : (h1, h2) = ((0, 0) : Int × Int)
    · by_cases a2 : (d1, d2, d3) = ((1, 0, 1) : Int × Int × Int)
      · by_cases a3 : m = 1
        · simp only [a1, a2, a3]; simp
        · simp only [a1, a2, a3]; simp
      · simp only [a1, a2]; simp
    · simp only [a1]; simp)
  have HLst := Lib.hid (show ∀ n, lastN ⟨true, y, m, (d1, d2, d3), (h1, h2)⟩ = n → R = (lineK ⟨off, 2, 0, sn.data.toList, sf.data.toList, ⟨true, y, m, (d1, d2, d3), (h1, h2)⟩⟩ (1 + n), 0) from fun n hn => by
    rw [HR.out, ← hn]
    exact congrArg (·, 0) (lineK_all rfl).symm)
  clear hy hy2 hy3 hsY hsM hsD hsA HU HR HRi HBy
  go_upto_region 19 with fail
  have HU1 := Lib.hid (show Blk (w3.alloc (.cells #[.bool true, .int .i64 y, .int .i64 m, .int .i64 d1, .int .i64 d2, .int .i64 d3, .int .i64 h1, .int .i64 h2] 53)) w3.heap.size 53 #[.bool true, .int .i64 y, .int .i64 m, .int .i64 d1, .int .i64 d2, .int .i64 d3, .int .i64 h1, .int .i64 h2] ∧ Below w.heap.size w (w3.alloc (.cells #[.bool true, .int .i64 y, .int .i64 m, .int .i64 d1, .int .i64 d2, .int .i64 d3, .int .i64 h1, .int .i64 h2] 53)) from ⟨Blk.new' _ _ _ rfl, rbelow_alloc HB3.out.2 _⟩)
  clear HB3 c0 c1 c2 c3 c4 c5 c6 c7 c8 c9 c10 c11 c12
  go_wp2_with fail
  refine (HDy.out _).mono ?_
  rintro e w5 ⟨rfl, hb5⟩
  have HU2 := Lib.hid (And.intro (HU1.out.1.below hb5 HU1.out.1.lt) (HU1.out.2.trans (hb5.mono HU1.out.2.size)))
  clear HU1 hb5 HDy
  generalize w3.heap.size = g10 at *
  have q6 : w5.cell? ⟨g10, 6, none⟩ = some (.int .i64 h1) := HU2.out.1.cell_ rfl
  have q7 : w5.cell? ⟨g10, 7, none⟩ = some (.int .i64 h2) := HU2.out.1.cell_ rfl
  go_wp2_with fail
  refine (HAt.out _).mono ?_
  rintro e w6 ⟨rfl, hb6⟩
  have HU3 := Lib.hid (And.intro (HU2.out.1.below hb6 HU2.out.1.lt) (HU2.out.2.trans (hb6.mono HU2.out.2.size)))
  clear HU2 hb6 HAt q6 q7
  go_upto_region 21 with fail
  refine wp_region_rels 9 [[], [], [], [], [], [], [], [], []] [Form.val, Form.val, Form.val, Form.val, Form.val, Form.val, Form.val, Form.val, Form.rel (TabE #[.string sY, .string sM, .string sD, .string sA])] (fun W => Blk W g10 53 #[.bool true, .int .i64 y, .int .i64 m, .int .i64 d1, .int .i64 d2, .int .i64 d3, .int .i64 h1, .int .i64 h2] ∧ Below w.heap.size w W) (by kernel_rfl) (by kernel_rfl) rfl rfl (⟨HU3.out.1, HU3.out.2.drew⟩) (fun W W' h hb => ⟨h.1.below hb h.1.lt, h.2.trans (hb.mono h.2.size)⟩) ⟨TabE.lasts _, trivial⟩ ?_
  repeat (first | apply exSpec_rel | apply exSpec_new | apply exSpec_val)
  apply relWalk_ex rfl ?o0 (fun K hK => ?n0)
  case o0 =>
    intro W hC hF
    have q1 : W.cell? ⟨g10, 1, none⟩ = some (.int .i64 y) := hC.1.cell_ rfl
    have q2 : W.cell? ⟨g10, 2, none⟩ = some (.int .i64 m) := hC.1.cell_ rfl
    go_simp
    all_goals exact ⟨Below.refl _ _, rfl⟩
  case' n0 =>
    go_simp
    refine hK _ ?_
    clear hK K
  apply relWalk_ex rfl ?o1 (fun K hK => ?n1)
  case o1 =>
    intro W hC hF
    have q1 : W.cell? ⟨g10, 1, none⟩ = some (.int .i64 y) := hC.1.cell_ rfl
    have q2 : W.cell? ⟨g10, 2, none⟩ = some (.int .i64 m) := hC.1.cell_ rfl
    go_simp
    all_goals exact ⟨Below.refl _ _, rfl⟩
  case' n1 =>
    go_simp
    refine hK _ ?_
    clear hK K
  apply relWalk_ex rfl ?o2 (fun K hK => ?n2)
  case o2 =>
    intro W hC hF
    have q1 : W.cell? ⟨g10, 1, none⟩ = some (.int .i64 y) := hC.1.cell_ rfl
    have q2 : W.cell? ⟨g10, 2, none⟩ = some (.int .i64 m) := hC.1.cell_ rfl
    go_simp
    all_goals exact HDc.out W
  case' n2 =>
    go_simp
    refine hK _ ?_
    clear hK K
  apply relWalk_ex rfl ?o3 (fun K hK => ?n3)
  case o3 =>
    intro W hC hF
    have q1 : W.cell? ⟨g10, 1, none⟩ = some (.int .i64 y) := hC.1.cell_ rfl
    have q2 : W.cell? ⟨g10, 2, none⟩ = some (.int .i64 m) := hC.1.cell_ rfl
    go_simp
    all_goals exact ⟨Below.refl _ _, rfl⟩
  case' n3 =>
    go_simp
    refine hK _ ?_
    clear hK K
  apply relWalk_ex rfl ?o4 (fun K hK => ?n4)
  case o4 =>
    intro W hC hF
    have q1 : W.cell? ⟨g10, 1, none⟩ = some (.int .i64 y) := hC.1.cell_ rfl
    have q2 : W.cell? ⟨g10, 2, none⟩ = some (.int .i64 m) := hC.1.cell_ rfl
    go_simp
    all_goals exact ⟨Below.refl _ _, rfl⟩
  case' n4 =>
    go_simp
    refine hK _ ?_
    clear hK K
  apply relWalk_ex rfl ?o5 (fun K hK => ?n5)
  case o5 =>
    intro W hC hF
    have q1 : W.cell? ⟨g10, 1, none⟩ = some (.int .i64 y) := hC.1.cell_ rfl
    have q2 : W.cell? ⟨g10, 2, none⟩ = some (.int .i64 m) := hC.1.cell_ rfl
    go_simp
    all_goals exact HMt.out W
  case' n5 =>
    go_simp
    refine hK _ ?_
    clear hK K
  apply relWalk_ex rfl ?o6 (fun K hK => ?n6)
  case o6 =>
    intro W hC hF
    have q1 : W.cell? ⟨g10, 1, none⟩ = some (.int .i64 y) := hC.1.cell_ rfl
    have q2 : W.cell? ⟨g10, 2, none⟩ = some (.int .i64 m) := hC.1.cell_ rfl
    go_simp
    all_goals exact ⟨Below.refl _ _, rfl⟩
  case' n6 =>
    go_simp
    refine hK _ ?_
    clear hK K
  apply relWalk_ex rfl ?o7 (fun K hK => ?n7)
  case o7 =>
    intro W hC hF
    have q1 : W.cell? ⟨g10, 1, none⟩ = some (.int .i64 y) := hC.1.cell_ rfl
    have q2 : W.cell? ⟨g10, 2, none⟩ = some (.int .i64 m) := hC.1.cell_ rfl
    go_simp
    all_goals exact ⟨Below.refl _ _, rfl⟩
  case' n7 =>
    go_simp
    refine hK _ ?_
    clear hK K
  apply relWalk_rel rfl ?o8 (fun u8 K hK => ?n8)
  case o8 =>
    intro W hC hF
    have q1 : W.cell? ⟨g10, 1, none⟩ = some (.int .i64 y) := hC.1.cell_ rfl
    have q2 : W.cell? ⟨g10, 2, none⟩ = some (.int .i64 m) := hC.1.cell_ rfl
    go_simp
    all_goals exact ⟨by go_grown, _, rfl, Blk.new _ _ _⟩
  case' n8 =>
    go_simp
    refine hK _ ?_
    clear hK K
  apply relWalk_end
  intro W hC hF hU
  obtain ⟨⟨g, rfl, hB⟩, -⟩ := hF
  have HW := Lib.hid (And.intro hB hC.2)
  clear hB hC HU3 HDc HMt
  have q0 : W.cell? ⟨g, 0, none⟩ = some (.string sY) := HW.out.1.cell_ rfl
  have q1 : W.cell? ⟨g, 1, none⟩ = some (.string sM) := HW.out.1.cell_ rfl
  have q2 : W.cell? ⟨g, 2, none⟩ = some (.string sD) := HW.out.1.cell_ rfl
  have q3 : W.cell? ⟨g, 3, none⟩ = some (.string sA) := HW.out.1.cell_ rfl
  have HCell := Lib.hid (show ∀ k, k < 4 → ∃ s : ByteArray, W.cell? ⟨g, k, none⟩ = some (.string s) ∧ Hid ([sY.data.toList, sM.data.toList, sD.data.toList, sA.data.toList][k]? = some s.data.toList) ∧ s.size ≤ 30 from fun k hk => by
    rcases (by omega : k = 0 ∨ k = 1 ∨ k = 2 ∨ k = 3) with rfl | rfl | rfl | rfl
    · exact ⟨sY, q0, rfl, HSz.out _ (by simp)⟩
    · exact ⟨sM, q1, rfl, HSz.out _ (by simp)⟩
    · exact ⟨sD, q2, rfl, HSz.out _ (by simp)⟩
    · exact ⟨sA, q3, rfl, HSz.out _ (by simp)⟩)
  go_upto_region 22 with fail
  rcases HCases.out with ⟨hA, hl⟩ | ⟨hA, hD, hl⟩ | ⟨hA, hD, hM, hl⟩ | ⟨hA, hD, hM, hl⟩
  · have HEnd := Lib.hid (HLst.out _ hl)
    have eA : (sA.toList == [48, 58, 48, 48]) = false := str_ne hA
    clear hA
    clear hl HLst HSz HCases
    go_wp2_with fail
    clear q0 q1 q2 q3
    go_loop [9, 17] (fun v i => ∃ (k : Nat) (lb : ByteArray), k ≤ 4 ∧ i = .int .i64 (k : Int) ∧ v = .string lb ∧ lb.size ≤ 100 + 40 * k ∧ Hid (lb.data.toList = lineK ⟨off, 2, 0, sn.data.toList, sf.data.toList, ⟨true, y, m, (d1, d2, d3), (h1, h2)⟩⟩ k)) (fun _ i => 4 - (intOf i).toNat)
    case atStart => exact ⟨0, LB, by omega, rfl, rfl, by omega, HLB⟩
    case round =>
      obtain ⟨k, lb, hk, rfl, rfl, hsz, HI⟩ := hrel
      by_cases hlt : k < 4
      · obtain ⟨s, hc, Hs, hss⟩ := HCell.out k (by omega)
        have HI2 := Lib.hid (show (lb ++ ⟨#[32]⟩ ++ s).data.toList = lineK ⟨off, 2, 0, sn.data.toList, sf.data.toList, ⟨true, y, m, (d1, d2, d3), (h1, h2)⟩⟩ (k + 1) by
          rw [lineK_succ (a := s.data.toList) (by rw [HFull.out]; exact Hs.out), ← HI.out]; simp)
        clear HI Hs
        go_wp2_with fail
        go_round
        case rel => exact ⟨k + 1, lb ++ ⟨#[32]⟩ ++ s, by omega, by go_num, rfl, by simp only [ByteArray.size_append, show (⟨#[32]⟩ : ByteArray).size = 1 from rfl]; omega, HI2⟩
        case measure => simp [intOf]; omega
      · obtain rfl : k = 4 := by omega
        have HF := Lib.hid (show R = (lb.data.toList, 0) by rw [HEnd.out, HI.out])
        clear HI
        go_wp2_with fail
        go_ret2
        exact ⟨by rw [HF.out]; simp, HW.out.2⟩
  · have HEnd := Lib.hid (HLst.out _ hl)
    have eA : (sA.toList == [48, 58, 48, 48]) = true := str_yes hA
    have eD : (sD.toList == [49]) = false := str_ne hD
    clear hA hD
    clear hl HLst HSz HCases
    go_wp2_with fail
    clear q0 q1 q2 q3
    go_loop [9, 17] (fun v i => ∃ (k : Nat) (lb : ByteArray), k ≤ 3 ∧ i = .int .i64 (k : Int) ∧ v = .string lb ∧ lb.size ≤ 100 + 40 * k ∧ Hid (lb.data.toList = lineK ⟨off, 2, 0, sn.data.toList, sf.data.toList, ⟨true, y, m, (d1, d2, d3), (h1, h2)⟩⟩ k)) (fun _ i => 3 - (intOf i).toNat)
    case atStart => exact ⟨0, LB, by omega, rfl, rfl, by omega, HLB⟩
    case round =>
      obtain ⟨k, lb, hk, rfl, rfl, hsz, HI⟩ := hrel
      by_cases hlt : k < 3
      · obtain ⟨s, hc, Hs, hss⟩ := HCell.out k (by omega)
        have HI2 := Lib.hid (show (lb ++ ⟨#[32]⟩ ++ s).data.toList = lineK ⟨off, 2, 0, sn.data.toList, sf.data.toList, ⟨true, y, m, (d1, d2, d3), (h1, h2)⟩⟩ (k + 1) by
          rw [lineK_succ (a := s.data.toList) (by rw [HFull.out]; exact Hs.out), ← HI.out]; simp)
        clear HI Hs
        go_wp2_with fail
        go_round
        case rel => exact ⟨k + 1, lb ++ ⟨#[32]⟩ ++ s, by omega, by go_num, rfl, by simp only [ByteArray.size_append, show (⟨#[32]⟩ : ByteArray).size = 1 from rfl]; omega, HI2⟩
        case measure => simp [intOf]; omega
      · obtain rfl : k = 3 := by omega
        have HF := Lib.hid (show R = (lb.data.toList, 0) by rw [HEnd.out, HI.out])
        clear HI
        go_wp2_with fail
        go_ret2
        exact ⟨by rw [HF.out]; simp, HW.out.2⟩
  · have HEnd := Lib.hid (HLst.out _ hl)
    have eA : (sA.toList == [48, 58, 48, 48]) = true := str_yes hA
    have eD : (sD.toList == [49]) = true := str_yes hD
    have eM : (sM.toList == [74, 97, 110]) = false := str_ne hM
    clear hA hD hM
    clear hl HLst HSz HCases
    go_wp2_with fail
    clear q0 q1 q2 q3
    go_loop [9, 17] (fun v i => ∃ (k : Nat) (lb : ByteArray), k ≤ 2 ∧ i = .int .i64 (k : Int) ∧ v = .string lb ∧ lb.size ≤ 100 + 40 * k ∧ Hid (lb.data.toList = lineK ⟨off, 2, 0, sn.data.toList, sf.data.toList, ⟨true, y, m, (d1, d2, d3), (h1, h2)⟩⟩ k)) (fun _ i => 2 - (intOf i).toNat)
    case atStart => exact ⟨0, LB, by omega, rfl, rfl, by omega, HLB⟩
    case round =>
      obtain ⟨k, lb, hk, rfl, rfl, hsz, HI⟩ := hrel
      by_cases hlt : k < 2
      · obtain ⟨s, hc, Hs, hss⟩ := HCell.out k (by omega)
        have HI2 := Lib.hid (show (lb ++ ⟨#[32]⟩ ++ s).data.toList = lineK ⟨off, 2, 0, sn.data.toList, sf.data.toList, ⟨true, y, m, (d1, d2, d3), (h1, h2)⟩⟩ (k + 1) by
          rw [lineK_succ (a := s.data.toList) (by rw [HFull.out]; exact Hs.out), ← HI.out]; simp)
        clear HI Hs
        go_wp2_with fail
        go_round
        case rel => exact ⟨k + 1, lb ++ ⟨#[32]⟩ ++ s, by omega, by go_num, rfl, by simp only [ByteArray.size_append, show (⟨#[32]⟩ : ByteArray).size = 1 from rfl]; omega, HI2⟩
        case measure => simp [intOf]; omega
      · obtain rfl : k = 2 := by omega
        have HF := Lib.hid (show R = (lb.data.toList, 0) by rw [HEnd.out, HI.out])
        clear HI
        go_wp2_with fail
        go_ret2
        exact ⟨by rw [HF.out]; simp, HW.out.2⟩
  · have HEnd := Lib.hid (HLst.out _ hl)
    have eA : (sA.toList == [48, 58, 48, 48]) = true := str_yes hA
    have eD : (sD.toList == [49]) = true := str_yes hD
    have eM : (sM.toList == [74, 97, 110]) = true := str_yes hM
    clear hA hD hM
    clear hl HLst HSz HCases
    go_wp2_with fail
    clear q0 q1 q2 q3
    go_loop [9, 17] (fun v i => ∃ (k : Nat) (lb : ByteArray), k ≤ 1 ∧ i = .int .i64 (k : Int) ∧ v = .string lb ∧ lb.size ≤ 100 + 40 * k ∧ Hid (lb.data.toList = lineK ⟨off, 2, 0, sn.data.toList, sf.data.toList, ⟨true, y, m, (d1, d2, d3), (h1, h2)⟩⟩ k)) (fun _ i => 1 - (intOf i).toNat)
    case atStart => exact ⟨0, LB, by omega, rfl, rfl, by omega, HLB⟩
    case round =>
      obtain ⟨k, lb, hk, rfl, rfl, hsz, HI⟩ := hrel
      by_cases hlt : k < 1
      · obtain ⟨s, hc, Hs, hss⟩ := HCell.out k (by omega)
        have HI2 := Lib.hid (show (lb ++ ⟨#[32]⟩ ++ s).data.toList = lineK ⟨off, 2, 0, sn.data.toList, sf.data.toList, ⟨true, y, m, (d1, d2, d3), (h1, h2)⟩⟩ (k + 1) by
          rw [lineK_succ (a := s.data.toList) (by rw [HFull.out]; exact Hs.out), ← HI.out]; simp)
        clear HI Hs
        go_wp2_with fail
        go_round
        case rel => exact ⟨k + 1, lb ++ ⟨#[32]⟩ ++ s, by omega, by go_num, rfl, by simp only [ByteArray.size_append, show (⟨#[32]⟩ : ByteArray).size = 1 from rfl]; omega, HI2⟩
        case measure => simp [intOf]; omega
      · obtain rfl : k = 1 := by omega
        have HF := Lib.hid (show R = (lb.data.toList, 0) by rw [HEnd.out, HI.out])
        clear HI
        go_wp2_with fail
        go_ret2
        exact ⟨by rw [HF.out]; simp, HW.out.2⟩

set_option maxRecDepth 100000 in
set_option maxHeartbeats 2000000 in
theorem r11print_k3 (off kd sv : Int) (sn sf : ByteArray) (is : Bool) (y m d1 d2 d3 h1 h2 : Int) (bo bs : ByteArray) (R : List UInt8 × Int) (w : World) (hsn : sn.size ≤ 1048576) (hsf : sf.size ≤ 1048576) (hk0 : (kd == 0) = false) (hk1 : (kd == 1) = false) (hk2 : (kd == 2) = false) (HK : Hid (¬ (0 ≤ kd ∧ kd ≤ 2)))
    (HOff : Hid (-604799 ≤ off ∧ off ≤ 604799)) (HSv : Hid (-604799 ≤ sv ∧ sv ≤ 604799)) (Hbo : Hid (offTx off = bo.data.toList)) (Hbs : Hid (offTx sv = bs.data.toList))
    (HN : Hid (¬ EraRight ⟨off, kd, sv, sn.data.toList, sf.data.toList, ⟨is, y, m, (d1, d2, d3), (h1, h2)⟩⟩ → R = ([], 2))) (HY : Hid (EraRight ⟨off, kd, sv, sn.data.toList, sf.data.toList, ⟨is, y, m, (d1, d2, d3), (h1, h2)⟩⟩ → R = (eraT ⟨off, kd, sv, sn.data.toList, sf.data.toList, ⟨is, y, m, (d1, d2, d3), (h1, h2)⟩⟩, 0)))
    (HP1 : Hid (∀ W, Calls Tryz.prog 77 #[.int .i64 off] W fun e w' => e = .returned (.tuple #[.string bo, .int .i64 0]) ∧ Below W.heap.size W w'))
    (HP2 : Hid (∀ W, Calls Tryz.prog 77 #[.int .i64 sv] W fun e w' => e = .returned (.tuple #[.string bs, .int .i64 0]) ∧ Below W.heap.size W w')) :
    Calls Tryz.prog 84 #[.agg #[.int .i64 off, .int .i64 kd, .int .i64 sv, .string sn, .string sf, .bool is, .int .i64 y, .int .i64 m, .int .i64 d1, .int .i64 d2, .int .i64 d3, .int .i64 h1, .int .i64 h2]] w fun e w' => e = .returned (.tuple #[.string ⟨R.1.toArray⟩, .int .i64 R.2]) ∧ Below w.heap.size w w' := by
  have HWr := Lib.hid (fun W => calls_flip (r11written_any sf W hsf))
  have HRt := Lib.hid (fun W => r11right_any ⟨is, y, m, (d1, d2, d3), (h1, h2)⟩ W)
  simp only [UntilP.arr] at HRt
  have HSe := Lib.hid (fun W => eSet' sn W hsn)
  have HLn := Lib.hid (And.intro hsn hsf)
  clear hsn hsf
  have HB0 := Lib.hid (show ∀ o, Below w.heap.size w (w.alloc o) from fun o => (Below.refl _ _).alloc (Nat.le_refl _) o)
  go_enter Tryz.func84, Tryz.ntmps84
  go_wp2_with fail
  refine (HP1.out _).mono ?_
  rintro e w1 ⟨rfl, hb1⟩
  have HB1 := Lib.hid (And.intro ((Blk.new' w 55 #[.int .i64 off, .int .i64 kd, .int .i64 sv, .string sn, .string sf, .bool is, .int .i64 y, .int .i64 m, .int .i64 d1, .int .i64 d2, .int .i64 d3, .int .i64 h1, .int .i64 h2] rfl).below hb1 (by simp)) ((HB0.out _).trans (hb1.mono (HB0.out _).size)))
  have c2 : w1.cell? ⟨w.heap.size, 2, none⟩ = some (.int .i64 sv) := HB1.out.1.cell_ rfl
  clear hb1 HB0 HP1
  go_wp2_with fail
  refine (HP2.out _).mono ?_
  rintro e w2 ⟨rfl, hb2⟩
  have HB2 := Lib.hid (And.intro (HB1.out.1.below hb2 HB1.out.1.lt) (HB1.out.2.trans (hb2.mono HB1.out.2.size)))
  clear hb2 HB1 HP2 c2
  have c0 : w2.cell? ⟨w.heap.size, 0, none⟩ = some (.int .i64 off) := HB2.out.1.cell_ rfl
  have c1 : w2.cell? ⟨w.heap.size, 1, none⟩ = some (.int .i64 kd) := HB2.out.1.cell_ rfl
  have c2 : w2.cell? ⟨w.heap.size, 2, none⟩ = some (.int .i64 sv) := HB2.out.1.cell_ rfl
  have c3 : w2.cell? ⟨w.heap.size, 3, none⟩ = some (.string sn) := HB2.out.1.cell_ rfl
  have c4 : w2.cell? ⟨w.heap.size, 4, none⟩ = some (.string sf) := HB2.out.1.cell_ rfl
  have c5 : w2.cell? ⟨w.heap.size, 5, none⟩ = some (.bool is) := HB2.out.1.cell_ rfl
  have c6 : w2.cell? ⟨w.heap.size, 6, none⟩ = some (.int .i64 y) := HB2.out.1.cell_ rfl
  have c7 : w2.cell? ⟨w.heap.size, 7, none⟩ = some (.int .i64 m) := HB2.out.1.cell_ rfl
  have c8 : w2.cell? ⟨w.heap.size, 8, none⟩ = some (.int .i64 d1) := HB2.out.1.cell_ rfl
  have c9 : w2.cell? ⟨w.heap.size, 9, none⟩ = some (.int .i64 d2) := HB2.out.1.cell_ rfl
  have c10 : w2.cell? ⟨w.heap.size, 10, none⟩ = some (.int .i64 d3) := HB2.out.1.cell_ rfl
  have c11 : w2.cell? ⟨w.heap.size, 11, none⟩ = some (.int .i64 h1) := HB2.out.1.cell_ rfl
  have c12 : w2.cell? ⟨w.heap.size, 12, none⟩ = some (.int .i64 h2) := HB2.out.1.cell_ rfl
  go_upto_region 3 with fail
  cases hf : fmtB sf.data.toList
  case false =>
    have HR := Lib.hid (HN.out fun h => Bool.noConfusion (hf.symm.trans h.fmt))
    rw [hf] at HWr
    clear hf HN HY HRt HSe
    go_wp2_with fail
    refine (HWr.out _).mono ?_
    rintro e w3 ⟨rfl, rfl⟩
    go_wp2_with fail
    go_ret2
    exact ⟨by rw [HR.out]; rfl, HB2.out.2⟩
  rw [hf] at HWr
  have HFm := Lib.hid hf
  clear hf
  go_wp2_with fail
  refine (HWr.out _).mono ?_
  rintro e w3 ⟨rfl, rfl⟩
  go_wp2_with fail
  refine (HRt.out _).mono ?_
  rintro e w3 ⟨rfl, hb3⟩
  have HB3 := Lib.hid (And.intro (HB2.out.1.below hb3 HB2.out.1.lt) (HB2.out.2.trans (hb3.mono HB2.out.2.size)))
  clear hb3 HB2 HWr HRt c0 c1 c2 c3 c4 c5 c6 c7 c8 c9 c10 c11 c12
  have c0 : w3.cell? ⟨w.heap.size, 0, none⟩ = some (.int .i64 off) := HB3.out.1.cell_ rfl
  have c1 : w3.cell? ⟨w.heap.size, 1, none⟩ = some (.int .i64 kd) := HB3.out.1.cell_ rfl
  have c2 : w3.cell? ⟨w.heap.size, 2, none⟩ = some (.int .i64 sv) := HB3.out.1.cell_ rfl
  have c3 : w3.cell? ⟨w.heap.size, 3, none⟩ = some (.string sn) := HB3.out.1.cell_ rfl
  have c4 : w3.cell? ⟨w.heap.size, 4, none⟩ = some (.string sf) := HB3.out.1.cell_ rfl
  have c5 : w3.cell? ⟨w.heap.size, 5, none⟩ = some (.bool is) := HB3.out.1.cell_ rfl
  have c6 : w3.cell? ⟨w.heap.size, 6, none⟩ = some (.int .i64 y) := HB3.out.1.cell_ rfl
  have c7 : w3.cell? ⟨w.heap.size, 7, none⟩ = some (.int .i64 m) := HB3.out.1.cell_ rfl
  have c8 : w3.cell? ⟨w.heap.size, 8, none⟩ = some (.int .i64 d1) := HB3.out.1.cell_ rfl
  have c9 : w3.cell? ⟨w.heap.size, 9, none⟩ = some (.int .i64 d2) := HB3.out.1.cell_ rfl
  have c10 : w3.cell? ⟨w.heap.size, 10, none⟩ = some (.int .i64 d3) := HB3.out.1.cell_ rfl
  have c11 : w3.cell? ⟨w.heap.size, 11, none⟩ = some (.int .i64 h1) := HB3.out.1.cell_ rfl
  have c12 : w3.cell? ⟨w.heap.size, 12, none⟩ = some (.int .i64 h2) := HB3.out.1.cell_ rfl
  cases hu : untilOk ⟨is, y, m, (d1, d2, d3), (h1, h2)⟩
  case false =>
    have HR := Lib.hid (HN.out fun h => Bool.noConfusion (hu.symm.trans ((untilOk_iff _).2 h.til)))
    clear hu HN HY HSe
    go_wp2_with fail
    go_ret2
    exact ⟨by rw [HR.out]; rfl, HB3.out.2⟩
  have HU := Lib.hid ((untilOk_iff _).1 hu)
  clear hu
  have HR := Lib.hid (HN.out fun h => HK.out h.kind)
  clear HN HY HSe
  go_wp2_with fail
  go_ret2
  exact ⟨by rw [HR.out]; rfl, HB3.out.2⟩

theorem r11print_any (e : EraP) (w : World) (hl1 : e.set.length ≤ 1048576) (hl2 : e.fmt.length ≤ 1048576) :
    Calls Tryz.prog 84 #[.agg e.cells] w fun r w' => r = .returned (.tuple #[.string ⟨(eraPrintR e).1.toArray⟩, .int .i64 (eraPrintR e).2]) ∧ Below w.heap.size w w' := by
  obtain ⟨off, kd, sv, set, fmt, ⟨is, y, m, ⟨d1, d2, d3⟩, ⟨h1, h2⟩⟩⟩ := e
  obtain ⟨sn, rfl⟩ := asBl set
  obtain ⟨sf, rfl⟩ := asBl fmt
  have HN := Lib.hid (show ¬ EraRight ⟨off, kd, sv, sn.data.toList, sf.data.toList, ⟨is, y, m, (d1, d2, d3), (h1, h2)⟩⟩ → eraPrintR ⟨off, kd, sv, sn.data.toList, sf.data.toList, ⟨is, y, m, (d1, d2, d3), (h1, h2)⟩⟩ = ([], 2) from fun h => if_neg fun h2 => h ((eraOk_iff _).1 h2))
  have HY := Lib.hid (show EraRight ⟨off, kd, sv, sn.data.toList, sf.data.toList, ⟨is, y, m, (d1, d2, d3), (h1, h2)⟩⟩ → eraPrintR ⟨off, kd, sv, sn.data.toList, sf.data.toList, ⟨is, y, m, (d1, d2, d3), (h1, h2)⟩⟩ = (eraT ⟨off, kd, sv, sn.data.toList, sf.data.toList, ⟨is, y, m, (d1, d2, d3), (h1, h2)⟩⟩, 0) from fun h => if_pos ((eraOk_iff _).2 h))
  simp only [EraP.cells, ba_back]
  simp only at hl1 hl2
  have hP1 := fun W => r4print_any off W
  have hP2 := fun W => r4print_any sv W
  rcases off_cases off with ⟨ho, he⟩ | ⟨ho, he⟩
  case inr =>
    rw [HN.out fun h => ho h.off]
    simp only [he] at hP1
    exact r11print_off off kd sv sn sf is y m d1 d2 d3 h1 h2 _ _ w (Lib.hid hP1) (Lib.hid hP2)
  rcases off_cases sv with ⟨hs, he2⟩ | ⟨hs, he2⟩
  case inr =>
    rw [HN.out fun h => hs (by
      by_cases hk : kd = 1
      · exact h.save1 hk
      · have := h.save0 hk; simp only at this; omega)]
    simp only [he] at hP1
    simp only [he2] at hP2
    exact r11print_sv off kd sv sn sf is y m d1 d2 d3 h1 h2 _ w (Lib.hid hP1) (Lib.hid hP2)
  obtain ⟨bo, hbo⟩ := asBl (offTx off)
  obtain ⟨bs, hbs⟩ := asBl (offTx sv)
  simp only [he, hbo, ba_back] at hP1
  simp only [he2, hbs, ba_back] at hP2
  by_cases hk : 0 ≤ kd ∧ kd ≤ 2
  · rcases (by omega : kd = 0 ∨ kd = 1 ∨ kd = 2) with rfl | rfl | rfl
    · exact r11print_k0 off sv sn sf is y m d1 d2 d3 h1 h2 bo bs _ w hl1 hl2 (Lib.hid ho) (Lib.hid hs) (Lib.hid hbo) (Lib.hid hbs) HN HY (Lib.hid hP1) (Lib.hid hP2)
    · exact r11print_k1 off sv sn sf is y m d1 d2 d3 h1 h2 bo bs _ w hl1 hl2 (Lib.hid ho) (Lib.hid hs) (Lib.hid hbo) (Lib.hid hbs) HN HY (Lib.hid hP1) (Lib.hid hP2)
    · exact r11print_k2 off sv sn sf is y m d1 d2 d3 h1 h2 bo bs _ w hl1 hl2 (Lib.hid ho) (Lib.hid hs) (Lib.hid hbo) (Lib.hid hbs) HN HY (Lib.hid hP1) (Lib.hid hP2)
  · exact r11print_k3 off kd sv sn sf is y m d1 d2 d3 h1 h2 bo bs _ w hl1 hl2 (beq_eq_false_iff_ne.2 (by omega)) (beq_eq_false_iff_ne.2 (by omega)) (beq_eq_false_iff_ne.2 (by omega)) (Lib.hid hk) (Lib.hid ho) (Lib.hid hs) (Lib.hid hbo) (Lib.hid hbs) HN HY (Lib.hid hP1) (Lib.hid hP2)
end Go.Proofs.YtmcgbjjcpcgcfaaGreatDoor
