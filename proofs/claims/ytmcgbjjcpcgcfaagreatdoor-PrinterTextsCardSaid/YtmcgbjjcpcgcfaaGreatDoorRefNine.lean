/-
  The references of layer 8: small, find, weeks, Week, short, WeekText return what the program's functions return.
  The references of layer 9: number, last, sign, digits, Check, Parse, Print return what the program's functions return.
  The references of layers 9 and 2: digits, Check, Parse, Print return what the program's functions return.
  The references of layer 9: Parse and Print; DayspecReads: the walk.
  The reference of layer 4, printing: Decimal, Two, Print return what the program's functions return.
  The reference of layer 4, reading: digit, pair, form, Parse return what the program's functions return.
  The references of layer 6: Check, base, Parse, Print return what the program's functions return.
-/
import Derived.Test.YtmcgbjjcpcgcfaaGreatDoorDayAll
import Derived.Deep.QuietTactic
import Derived.BigQuiet
import Derived.Handy
import Derived.Deep.RegionHeld3
import Derived.Outline
import Derived.Test.YtmcgbjjcpcgcfaaGreatDoorOffAll
set_option linter.unusedVariables false
namespace Go.Proofs.YtmcgbjjcpcgcfaaGreatDoor
open Go.RowKit

theorem Tryz.info_u8 : (Tryz.prog.info? 5).map (fun i => (i.zero, i.size, i.bytes)) = some (some (.int .u8 0), 1, 1) := by kernel_rfl
def u8s (l : List UInt8) : List Value := l.map fun c => Value.int .u8 (c.toNat : Int)
theorem bytesIn_of {w : World} {B n : Nat} {A : Option Addr} {l : List UInt8} (h : Reads w B 1 A n (u8s l)) : Lib.BytesIn w A n (l.map fun c => (c.toNat : Int)) := fun hn => by
  obtain ⟨ad, rfl, _, hc⟩ := h.2 hn
  have hl : l.length = n := by have := h.1; simpa [u8s] using this
  exact Lib.BytesIn.of_cells (fun i hi => hc i _ (by simp [u8s, List.getElem?_eq_getElem (show i < l.length by omega)])) hn
theorem str_of_u8s (l : List UInt8) : strOfNums (l.map fun c => (c.toNat : Int)) = ⟨l.toArray⟩ := by
  have e : (l.map ((fun n : Int => UInt8.ofNat n.toNat) ∘ fun c : UInt8 => (c.toNat : Int))) = l := by
    rw [show ((fun n : Int => UInt8.ofNat n.toNat) ∘ fun c : UInt8 => (c.toNat : Int)) = id from funext fun c => by simp]
    simp
  simp [strOfNums, e]
theorem small_snoc (s : ByteArray) (k : Nat) (h : k < s.size) : u8s ((smallL s.data.toList).take (k + 1)) = u8s ((smallL s.data.toList).take k) ++ [.int .u8 (lowZ ((s[k]'h).toNat : Int))] := by
  have hl : k < (smallL s.data.toList).length := by simp [smallL, h]
  rw [List.take_succ_eq_append_getElem hl]
  simp only [u8s, List.map_append, List.map_cons, List.map_nil]
  congr 3
  have e : (smallL s.data.toList)[k] = lowA (s[k]'h) := by simp [smallL]; rfl
  rw [e, ← lowZ_A]
  have := lowZ_bd (c := ((s[k]'h).toNat : Int)) ⟨by omega, by have := (s[k]'h).toNat_lt; omega⟩
  simp
  omega

def foundI (ps : List (Nat × List UInt8)) : Int := (ps.getLast?.map fun p => (p.1 : Int)).getD (-1)
/-- what find of the references answers: the index of the word, and the error -/
def findRR (ws : List (List UInt8)) (s : List UInt8) : Int × Int := if (wordF ws s).2 = true then (((wordF ws s).1 : Int), 0) else (0, 8)

def weeksO : Obj := .cells #[.string ⟨#[115, 117, 110, 100, 97, 121]⟩, .string ⟨#[109, 111, 110, 100, 97, 121]⟩, .string ⟨#[116, 117, 101, 115, 100, 97, 121]⟩, .string ⟨#[119, 101, 100, 110, 101, 115, 100, 97, 121]⟩, .string ⟨#[116, 104, 117, 114, 115, 100, 97, 121]⟩, .string ⟨#[102, 114, 105, 100, 97, 121]⟩, .string ⟨#[115, 97, 116, 117, 114, 100, 97, 121]⟩] 9
set_option maxHeartbeats 400000 in
theorem rweeks_any (w : World) : Calls Tryz.prog 136 #[] w fun e w' => e = .returned (.slice (some ⟨w.heap.size, 0, none⟩) 7 7) ∧ w' = w.alloc weeksO := by
  go_enter Tryz.func136, Tryz.ntmps136
  go_wp2
  go_ret
  exact ⟨rfl, rfl⟩
theorem weeksO_cell (w : World) (j : Nat) (l : List UInt8) (hl : weekL[j]? = some l) : (w.alloc weeksO).cell? ⟨w.heap.size, j, none⟩ = some (.string ⟨l.toArray⟩) := by
  have b : Blk (w.alloc weeksO) w.heap.size 9 #[.string ⟨#[115, 117, 110, 100, 97, 121]⟩, .string ⟨#[109, 111, 110, 100, 97, 121]⟩, .string ⟨#[116, 117, 101, 115, 100, 97, 121]⟩, .string ⟨#[119, 101, 100, 110, 101, 115, 100, 97, 121]⟩, .string ⟨#[116, 104, 117, 114, 115, 100, 97, 121]⟩, .string ⟨#[102, 114, 105, 100, 97, 121]⟩, .string ⟨#[115, 97, 116, 117, 114, 100, 97, 121]⟩] := Blk.new' w _ _ rfl
  have hlt : j < 7 := (List.getElem?_eq_some_iff.1 hl).1
  rcases (by omega : j = 0 ∨ j = 1 ∨ j = 2 ∨ j = 3 ∨ j = 4 ∨ j = 5 ∨ j = 6) with rfl | rfl | rfl | rfl | rfl | rfl | rfl
  all_goals (cases hl; exact b.cell_ rfl)

theorem upper_str (a : UInt8) (ha : 97 ≤ a.toNat ∧ a.toNat ≤ 122) : strOfNums [(a.toNat : Int) - 97 + 65] = ⟨#[Lib.upperB a]⟩ := by
  have h : ∀ n : Fin 26, Lib.upperB (UInt8.ofNat (97 + n.val)) = UInt8.ofNat (65 + n.val) := by decide
  have h1 := h ⟨a.toNat - 97, by omega⟩
  simp only at h1
  rw [show 97 + (a.toNat - 97) = a.toNat by omega, show UInt8.ofNat a.toNat = a by simp] at h1
  rw [h1]
  simp only [strOfNums, List.map_cons, List.map_nil]
  rw [show ((a.toNat : Int) - 97 + 65).toNat = 65 + (a.toNat - 97) by omega]
theorem conv_one (W : World) (x : Int) (s : ByteArray) (hs : strOfNums [x] = s) :
    (convert 36 9 (.slice (some ⟨W.heap.size, 0, none⟩) 1 1)).run Tryz.prog (W.alloc (.cells #[.int .u8 x] 5)) = .ok (.string s) (W.alloc (.cells #[.int .u8 x] 5)) := by
  have hin : Lib.BytesIn (W.alloc (.cells #[.int .u8 x] 5)) (some ⟨W.heap.size, 0, none⟩) 1 [x] := Lib.BytesIn.of_cells fun i hi => by
    obtain rfl : i = 0 := by omega
    simp [Addr.add, World.cell?_alloc_new]
  rw [← hs]
  exact Lib.BytesIn.convert (P := Tryz.prog) hin rfl 1 36 5 9 Tryz.underlying36 Tryz.underlying5 Tryz.underlying9
theorem conv_one_drew (W : World) (x : Int) (s : ByteArray) (hs : strOfNums [x] = s) :
    (convert 36 9 (.slice (some ⟨W.heap.size, 0, none⟩) 1 1)).run Tryz.prog (W.alloc (.cells #[.int .u8 x] 5)).drew = .ok (.string s) (W.alloc (.cells #[.int .u8 x] 5)).drew := by
  have hin : Lib.BytesIn (W.alloc (.cells #[.int .u8 x] 5)).drew (some ⟨W.heap.size, 0, none⟩) 1 [x] := Lib.BytesIn.of_cells fun i hi => by
    obtain rfl : i = 0 := by omega
    simp [Addr.add, World.cell?_alloc_new]
  rw [← hs]
  exact Lib.BytesIn.convert (P := Tryz.prog) hin rfl 1 36 5 9 Tryz.underlying36 Tryz.underlying5 Tryz.underlying9

set_option maxRecDepth 100000 in
set_option maxHeartbeats 400000 in
theorem rshort_any (a b c : UInt8) (l : List UInt8) (ha : 97 ≤ a.toNat ∧ a.toNat ≤ 122) (hl : l.length < 100) (w : World) :
    Calls Tryz.prog 117 #[.string ⟨(a :: b :: c :: l).toArray⟩] w fun e w' => e = .returned (.string ⟨#[Lib.upperB a, b, c]⟩) ∧ Below w.heap.size w w' := by
  obtain ⟨s, hs⟩ : ∃ s : ByteArray, s = ⟨(a :: b :: c :: l).toArray⟩ := ⟨_, rfl⟩
  have hsz : s.size = l.length + 3 := by rw [hs]; show (a :: b :: c :: l).length = _; simp
  have h13 : s.extract 1 3 = ⟨#[b, c]⟩ := by rw [hs]; apply ByteArray.ext; simp [ByteArray.data_extract]
  have g0 : ∀ h, ((s[0]'h).toNat) = a.toNat := by subst hs; intro h; rfl
  rw [← hs]
  have z0 : (0 : Int) < (s.size : Int) := by omega
  have z3 : (3 : Int) ≤ (s.size : Int) := by omega
  have h63 : ¬ (9223372036854775807 < 1 + (min 3 s.size - 1)) := by omega
  have x1 : IntKind.u8.wrap ((a.toNat : Int) - 97) = (a.toNat : Int) - 97 := by rw [IntKind.wrap_u8]; omega
  have x2 : IntKind.u8.wrap ((a.toNat : Int) - 97 + 65) = (a.toNat : Int) - 97 + 65 := by rw [IntKind.wrap_u8]; omega
  have hcv : ∀ W : World, (convert 36 9 (.slice (some ⟨W.heap.size, 0, none⟩) 1 1)).run Tryz.prog (W.alloc (.cells #[.int .u8 ((a.toNat : Int) - 97 + 65)] 5)) = .ok (.string ⟨#[Lib.upperB a]⟩) (W.alloc (.cells #[.int .u8 ((a.toNat : Int) - 97 + 65)] 5)) := fun W => conv_one W _ _ (upper_str a ha)
  have hcv2 : ∀ W : World, (convert 36 9 (.slice (some ⟨W.heap.size, 0, none⟩) 1 1)).run Tryz.prog (W.alloc (.cells #[.int .u8 ((a.toNat : Int) - 97 + 65)] 5)).drew = .ok (.string ⟨#[Lib.upperB a]⟩) (W.alloc (.cells #[.int .u8 ((a.toNat : Int) - 97 + 65)] 5)).drew := fun W => conv_one_drew W _ _ (upper_str a ha)
  have HS := Lib.hid hsz
  have H13 := Lib.hid h13
  clear hs hsz h13
  go_enter Tryz.func117, Tryz.ntmps117
  go_wp2_with fail
  go_region_with (fail)
  all_goals
    go_wp2_with fail
    go_ret
    exact ⟨by rw [H13.out]; rfl, by go_grown⟩

theorem weekL_low (i : Nat) (hi : i < 7) : ∃ a b c l, weekL[i]? = some (a :: b :: c :: l) ∧ (97 ≤ a.toNat ∧ a.toNat ≤ 122) ∧ l.length < 100 ∧ weekT (i : Int) = [Lib.upperB a, b, c] := by
  rcases (by omega : i = 0 ∨ i = 1 ∨ i = 2 ∨ i = 3 ∨ i = 4 ∨ i = 5 ∨ i = 6) with rfl | rfl | rfl | rfl | rfl | rfl | rfl
  all_goals exact ⟨_, _, _, _, rfl, by decide, by decide, by decide⟩

set_option maxHeartbeats 400000 in
theorem rweekText_any (i : Int) (w : World) :
    Calls Tryz.prog 109 #[.int .i64 i] w fun e w' => e = .returned (.string ⟨(weekT i).toArray⟩) ∧ Below w.heap.size w w' := by
  by_cases hi : 0 ≤ i ∧ i < 7
  · obtain ⟨n, rfl⟩ := Int.eq_ofNat_of_zero_le hi.1
    obtain ⟨a, b, c, l, hl, ha, hn, ht⟩ := weekL_low n (by omega)
    have hc := weeksO_cell w n _ hl
    have HT := Lib.hid ht
    have i0 : (0 : Int) ≤ (n : Int) := by omega
    have i6 : (n : Int) < 7 := by omega
    have i7 : ¬ (6 < (n : Int)) := by omega
    clear hi hl ht
    go_enter Tryz.func109, Tryz.ntmps109
    go_wp2_with fail
    refine (rweeks_any w).mono ?_
    rintro e w1 ⟨rfl, rfl⟩
    generalize hW : w.alloc weeksO = W at *
    have HB := Lib.hid (show Below w.heap.size w W by rw [← hW]; exact (Below.refl _ w).alloc (Nat.le_refl _) _)
    clear hW
    go_wp2_with fail
    refine (rshort_any a b c l ha hn _).mono ?_
    rintro e w1 ⟨rfl, hb⟩
    go_wp2_with fail
    go_ret
    exact ⟨by rw [HT.out]; rfl, HB.out.trans (hb.mono HB.out.size)⟩
  · have HT := Lib.hid (show weekT i = [] from if_neg hi)
    by_cases h0 : i < 0
    · clear hi
      go_enter Tryz.func109, Tryz.ntmps109
      go_wp2_with fail
      go_ret
      exact ⟨by rw [HT.out]; rfl, Below.refl _ _⟩
    · have h6 : 6 < i := by omega
      clear hi
      go_enter Tryz.func109, Tryz.ntmps109
      go_wp2_with fail
      go_ret
      exact ⟨by rw [HT.out]; rfl, Below.refl _ _⟩


def signR (s : List UInt8) : Int × Bool := if 0 ≤ Lib.indexAny s signs then (Lib.indexAny s signs, Lib.hasPrefix (s.drop ((Lib.indexAny s signs).toNat + 1)) [61]) else (0, false)
theorem byte_at (s : ByteArray) (k : Nat) (h : k < s.size) : ∃ c : UInt8, s.data.toList[k]? = some c ∧ ∀ h', (s[k]'h').toNat = c.toNat :=
  ⟨_, Lib.data_getElem? s k h, fun _ => rfl⟩
theorem pre_iff (l : List UInt8) (k : Nat) : Lib.hasPrefix (l.drop k) [61] = decide (l[k]? = some 61) := by
  rw [Bool.eq_iff_iff, decide_eq_true_iff]
  constructor
  · intro h
    have := pre_one h
    rwa [List.getElem?_drop] at this
  · intro h
    have hk : k < l.length := (List.getElem?_eq_some_iff.1 h).1
    rw [List.drop_eq_getElem_cons hk]
    have : l[k] = 61 := by rw [List.getElem?_eq_getElem hk] at h; exact Option.some.inj h
    simp [Lib.hasPrefix, this]

/-- whether a string begins with the word last -/
def lastR (s : List UInt8) : Bool := decide (4 ≤ s.length) && Lib.equalFold (s.take 4) lastL
theorem rlast_step (x y z : UInt8) (hy : 97 ≤ y.toNat ∧ y.toNat ≤ 122) (hz : z.toNat + 32 = y.toNat) : Lib.foldEq x y = decide (x.toNat = y.toNat ∨ x.toNat = z.toNat) := by
  unfold Lib.foldEq
  rw [decide_eq_decide]
  omega
def lastU : List UInt8 := [76, 65, 83, 84]
theorem last_at (k : Nat) (hk : k < 4) : ∃ y z : UInt8, lastL[k]? = some y ∧ (97 ≤ y.toNat ∧ y.toNat ≤ 122) ∧ z.toNat + 32 = y.toNat ∧ (∀ h, ((⟨#[108, 97, 115, 116]⟩ : ByteArray)[k]'h).toNat = y.toNat) ∧ (∀ h, ((⟨#[76, 65, 83, 84]⟩ : ByteArray)[k]'h).toNat = z.toNat) := by
  rcases (by omega : k = 0 ∨ k = 1 ∨ k = 2 ∨ k = 3) with rfl | rfl | rfl | rfl
  · exact ⟨108, 76, rfl, by decide, by decide, fun _ => rfl, fun _ => rfl⟩
  · exact ⟨97, 65, rfl, by decide, by decide, fun _ => rfl, fun _ => rfl⟩
  · exact ⟨115, 83, rfl, by decide, by decide, fun _ => rfl, fun _ => rfl⟩
  · exact ⟨116, 84, rfl, by decide, by decide, fun _ => rfl, fun _ => rfl⟩
def linv (s : List UInt8) (k : Nat) : Prop := Lib.equalFold ((s.take 4).drop k) (lastL.drop k) = Lib.equalFold (s.take 4) lastL
theorem linv_drop (s : List UInt8) (k : Nat) (x y : UInt8) (hk : k < 4) (hx : s[k]? = some x) (hy : lastL[k]? = some y) : (s.take 4).drop k = x :: (s.take 4).drop (k + 1) ∧ lastL.drop k = y :: lastL.drop (k + 1) := by
  have h1 : (s.take 4)[k]? = some x := by rw [List.getElem?_take, if_pos hk]; exact hx
  obtain ⟨a1, a2⟩ := List.getElem?_eq_some_iff.1 h1
  obtain ⟨b1, b2⟩ := List.getElem?_eq_some_iff.1 hy
  exact ⟨by rw [List.drop_eq_getElem_cons a1, a2], by rw [List.drop_eq_getElem_cons b1, b2]⟩

theorem digit_ext : ∀ k : Fin 10, ((⟨#[48, 49, 50, 51, 52, 53, 54, 55, 56, 57]⟩ : ByteArray).extract k.val (k.val + 1)).data.toList = Lib.decDigits k.val := by decide +kernel
theorem digit_of (k : Nat) (h : k < 10) : (⟨#[48, 49, 50, 51, 52, 53, 54, 55, 56, 57]⟩ : ByteArray).extract k (k + 1) = ⟨(Lib.decDigits k).toArray⟩ := by
  have := digit_ext ⟨k, h⟩
  apply ByteArray.ext
  rw [← Array.toList_inj]
  exact this
theorem digit_two : ∀ k : Fin 100, 10 ≤ k.val → Lib.decDigits k.val = Lib.decDigits (k.val / 10) ++ Lib.decDigits (k.val % 10) := by decide +kernel

set_option maxHeartbeats 400000 in
theorem rdigits_one (n : Nat) (h : n < 10) (w : World) :
    Calls Tryz.prog 110 #[.int .i64 (n : Int)] w fun e w' => e = .returned (.string ⟨(Lib.decDigits n).toArray⟩) ∧ w' = w := by
  have HD := Lib.hid (digit_of n h)
  have h1 : (n : Int) < 10 := by omega
  have h2 : (0 : Int) ≤ (n : Int) := by omega
  go_enter Tryz.func110, Tryz.ntmps110
  go_wp2_with fail
  go_ret
  exact ⟨by rw [← HD.out]; rfl, rfl⟩

set_option maxRecDepth 100000 in
set_option maxHeartbeats 1000000 in
theorem rdigits_any (n : Nat) (h : n < 100) (w : World) :
    Calls Tryz.prog 110 #[.int .i64 (n : Int)] w fun e w' => e = .returned (.string ⟨(Lib.decDigits n).toArray⟩) ∧ Below w.heap.size w w' := by
  by_cases h10 : n < 10
  · exact (rdigits_one n h10 w).mono fun e w' ⟨h1, h2⟩ => ⟨h1, h2 ▸ Below.refl _ _⟩
  · obtain ⟨d, hd⟩ : ∃ d, d = n / 10 := ⟨_, rfl⟩
    obtain ⟨m, hm⟩ : ∃ m, m = n % 10 := ⟨_, rfl⟩
    have HT := Lib.hid (show Lib.decDigits n = Lib.decDigits d ++ Lib.decDigits m by rw [hd, hm]; exact digit_two ⟨n, h⟩ (by simp; omega))
    have hd10 : d < 10 := by omega
    have hm10 : m < 10 := by omega
    have HD := Lib.hid (digit_of m hm10)
    have q1 : (n : Int).tdiv 10 = (d : Int) := by
      rw [Int.tdiv_eq_ediv_of_nonneg (by omega)]; omega
    have q2 : (n : Int).tmod 10 = (m : Int) := by
      rw [Int.tmod_eq_emod_of_nonneg (by omega)]; omega
    have q3 : IntKind.i64.wrap ((m : Int) + 1) = (m : Int) + 1 := IntWalk.i64_in _ (by omega)
    have q4 : IntKind.i64.wrap (d : Int) = (d : Int) := IntWalk.i64_in _ (by omega)
    have q5 : ((m : Int) + 1).toNat = m + 1 := by omega
    have m0 : (0 : Int) ≤ (m : Int) := by omega
    have m1 : (0 : Int) ≤ (m : Int) + 1 := by omega
    have m2 : (m : Int) + 1 ≤ 10 := by omega
    have m3 : (m : Int) ≤ (m : Int) + 1 := by omega
    have hn1 : ¬ (n : Int) < 10 := by omega
    have hl : (Lib.decDigits d).length ≤ 100 := by
      have h3 : ∀ k : Fin 10, (Lib.decDigits k.val).length ≤ 100 := by decide +kernel
      exact h3 ⟨d, by omega⟩
    have HQ := Lib.hid (fun w => rdigits_one d hd10 w)
    clear h hd hm h10
    generalize Lib.decDigits d = dl at *
    go_enter Tryz.func110, Tryz.ntmps110
    go_wp2_with fail
    go_quiet ((go_at_call 110; exact Calls.quiet_of_same (HQ.out _)))
    go_wp2_with fail
    go_ret
    refine ⟨?_, below_drawn (Below.refl _ _) _⟩
    rw [HT.out, HD.out]
    simp [ba_append]

def inB (n a b : Int) : Bool := decide (a ≤ n ∧ n ≤ b)
set_option maxHeartbeats 400000 in
theorem rin_any (n a b : Int) (w : World) :
    Calls Tryz.prog 135 #[.int .i64 n, .int .i64 a, .int .i64 b] w fun e w' => e = .returned (.bool (inB n a b)) ∧ w' = w := by
  by_cases h1 : a ≤ n
  · by_cases h2 : n ≤ b
    · have HD := Lib.hid (show inB n a b = true from decide_eq_true ⟨h1, h2⟩)
      go_enter Tryz.func135, Tryz.ntmps135
      go_wp2_with fail
      go_ret
      exact ⟨by rw [HD.out]; rfl, rfl⟩
    · have HD := Lib.hid (show inB n a b = false from decide_eq_false (fun h => h2 h.2))
      go_enter Tryz.func135, Tryz.ntmps135
      go_wp2_with fail
      go_ret
      exact ⟨by rw [HD.out]; rfl, rfl⟩
  · have HD := Lib.hid (show inB n a b = false from decide_eq_false (fun h => h1 h.1))
    go_enter Tryz.func135, Tryz.ntmps135
    go_wp2_with fail
    go_ret
    exact ⟨by rw [HD.out]; rfl, rfl⟩

theorem right_eq (k wk d : Int) : rightDay k wk d = ((k == 1 && wk == 0 && inB d 1 31) || (k == 2 && inB wk 0 6 && d == 0) || ((k == 3 || k == 4) && inB wk 0 6 && inB d 1 31)) := rfl

set_option maxRecDepth 100000 in
set_option maxHeartbeats 4000000 in
theorem rcheck_any (k wk d : Int) (w : World) :
    Calls Tryz.prog 108 #[.agg #[.int .i64 k, .int .i64 wk, .int .i64 d]] w fun e w' => e = .returned (.int .i64 (checkR k wk d)) ∧ Below w.heap.size w w' := by
  have HI := Lib.hid (fun w => rin_any wk 0 6 w)
  have HJ := Lib.hid (fun w => rin_any d 1 31 w)
  have HR := Lib.hid (show checkR k wk d = if ((k == 1 && wk == 0 && inB d 1 31) || (k == 2 && inB wk 0 6 && d == 0) || ((k == 3 || k == 4) && inB wk 0 6 && inB d 1 31)) = true then 0 else 2 from rfl)
  generalize inB wk 0 6 = p at *
  generalize inB d 1 31 = q at *
  have hk : (k == 1) = true ∨ ((k == 1) = false ∧ (k == 2) = true) ∨ ((k == 1) = false ∧ (k == 2) = false ∧ (k == 3) = true) ∨ ((k == 1) = false ∧ (k == 2) = false ∧ (k == 3) = false ∧ (k == 4) = true) ∨ ((k == 1) = false ∧ (k == 2) = false ∧ (k == 3) = false ∧ (k == 4) = false) := by
    simp only [beq_iff_eq, beq_eq_false_iff_ne, ne_eq]; omega
  rcases hk with h1 | ⟨h1, h2⟩ | ⟨h1, h2, h3⟩ | ⟨h1, h2, h3, h4⟩ | ⟨h1, h2, h3, h4⟩
  · obtain rfl : k = 1 := by simpa using h1
    clear h1
    cases q <;> cases hw : (wk == 0)
    all_goals
      rw [hw] at HR
      go_enter Tryz.func108, Tryz.ntmps108
      go_wp2_with fail
      go_quiet ((go_at_call 135; first | (with_reducible exact Calls.quiet_of_same (HI.out _)) | (with_reducible exact Calls.quiet_of_same (HJ.out _))))
      go_wp2_with fail
      go_ret
      exact ⟨by rw [HR.out]; simp, below_drawn ((Below.refl _ _).alloc (Nat.le_refl _) _) _⟩
  · obtain rfl : k = 2 := by simpa using h2
    clear h1 h2
    cases p <;> cases hw : (d == 0)
    all_goals
      rw [hw] at HR
      go_enter Tryz.func108, Tryz.ntmps108
      go_wp2_with fail
      go_quiet ((go_at_call 135; first | (with_reducible exact Calls.quiet_of_same (HI.out _)) | (with_reducible exact Calls.quiet_of_same (HJ.out _))))
      go_wp2_with fail
      go_ret
      exact ⟨by rw [HR.out]; simp, below_drawn ((Below.refl _ _).alloc (Nat.le_refl _) _) _⟩
  · obtain rfl : k = 3 := by simpa using h3
    clear h1 h2 h3
    cases p <;> cases q
    all_goals
      go_enter Tryz.func108, Tryz.ntmps108
      go_wp2_with fail
      go_quiet ((go_at_call 135; first | (with_reducible exact Calls.quiet_of_same (HI.out _)) | (with_reducible exact Calls.quiet_of_same (HJ.out _))))
      go_wp2_with fail
      go_ret
      exact ⟨by rw [HR.out]; simp, below_drawn ((Below.refl _ _).alloc (Nat.le_refl _) _) _⟩
  · obtain rfl : k = 4 := by simpa using h4
    clear h1 h2 h3 h4
    cases p <;> cases q
    all_goals
      go_enter Tryz.func108, Tryz.ntmps108
      go_wp2_with fail
      go_quiet ((go_at_call 135; first | (with_reducible exact Calls.quiet_of_same (HI.out _)) | (with_reducible exact Calls.quiet_of_same (HJ.out _))))
      go_wp2_with fail
      go_ret
      exact ⟨by rw [HR.out]; simp, below_drawn ((Below.refl _ _).alloc (Nat.le_refl _) _) _⟩
  · rw [h1, h2, h3, h4] at HR
    go_enter Tryz.func108, Tryz.ntmps108
    go_wp2_with fail
    go_quiet ((go_at_call 135; first | (with_reducible exact Calls.quiet_of_same (HI.out _)) | (with_reducible exact Calls.quiet_of_same (HJ.out _))))
    go_wp2_with fail
    go_ret
    exact ⟨by rw [HR.out]; simp, below_drawn ((Below.refl _ _).alloc (Nat.le_refl _) _) _⟩


theorem indexAny_at : ∀ (s : List UInt8) (i : Nat), Lib.indexAny s signs = (i : Int) → ∃ c, s[i]? = some c ∧ (c = 60 ∨ c = 62)
  | [], i, h => by simp [Lib.indexAny] at h
  | b :: l, i, h => by
    unfold Lib.indexAny at h
    split at h
    · rename_i hb
      obtain rfl : i = 0 := by omega
      exact ⟨b, rfl, by simpa [signs] using hb⟩
    · split at h
      · omega
      · rename_i _ hx
        have hge := Lib.indexAny_ge signs l
        have hne : Lib.indexAny l signs ≠ -1 := by simpa using hx
        obtain ⟨j, rfl⟩ : ∃ j, i = j + 1 := ⟨i - 1, by omega⟩
        obtain ⟨c, hc, h2⟩ := indexAny_at l j (by omega)
        exact ⟨c, by simpa using hc, h2⟩

set_option maxRecDepth 100000 in
set_option maxHeartbeats 1000000 in
theorem rprint_any (k wk d : Int) (w : World) :
    Calls Tryz.prog 75 #[.agg #[.int .i64 k, .int .i64 wk, .int .i64 d]] w fun e w' => e = .returned (.tuple #[.string ⟨(printR k wk d).1.toArray⟩, .int .i64 (printR k wk d).2]) ∧ Below w.heap.size w w' := by
  have hB0 : Below w.heap.size w (w.alloc (.cells #[.int .i64 k, .int .i64 wk, .int .i64 d] 43)) := (Below.refl _ _).alloc (Nat.le_refl _) _
  have HC := Lib.hid (rcheck_any k wk d (w.alloc (.cells #[.int .i64 k, .int .i64 wk, .int .i64 d] 43)))
  by_cases hr : rightDay k wk d = true
  · have HR := Lib.hid (show printR k wk d = (dayText k wk d, 0) from if_pos hr)
    have HK := Lib.hid (show checkR k wk d = 0 from if_pos hr)
    obtain ⟨hk1, hk4, hw0, hw6, hd0, hd31⟩ := right_bd hr
    obtain ⟨n, rfl⟩ := Int.eq_ofNat_of_zero_le hd0
    have HD := Lib.hid (fun w => rdigits_any n (by omega) w)
    clear hr
    go_enter Tryz.func75, Tryz.ntmps75
    go_wp2_with fail
    refine HC.out.mono ?_
    rintro e w1 ⟨rfl, hb1⟩
    rw [HK.out]
    have b0 : Blk w1 w.heap.size 43 #[.int .i64 k, .int .i64 wk, .int .i64 (n : Int)] := (Blk.new' _ _ _ rfl).below hb1 (by simp)
    have HB0 := Lib.hid b0
    obtain ⟨c0, c1, c2, _, _, _⟩ := b0.three
    have HB1 := Lib.hid (hB0.trans (hb1.mono hB0.size))
    clear b0 hb1 hB0 HC
    go_wp2_with fail
    refine (rweekText_any wk _).mono ?_
    rintro e w2 ⟨rfl, hb2⟩
    have b2 := HB0.out.below hb2 HB0.out.lt
    have HB2 := Lib.hid (HB1.out.trans (hb2.mono HB1.out.size))
    clear hb2 HB0 HB1 c0 c1 c2
    obtain ⟨c0, c1, c2, _, _, _⟩ := b2.three
    have hdl := digits_len (n : Int) hd0 hd31
    have hwl := weekT_len wk
    rw [Int.toNat_natCast] at hdl
    have HT := Lib.hid (show dayText k wk (n : Int) = if k = 1 then Lib.decDigits n else if k = 2 then [108, 97, 115, 116] ++ weekT wk else if k = 3 then weekT wk ++ [62, 61] ++ Lib.decDigits n else weekT wk ++ [60, 61] ++ Lib.decDigits n from rfl)
    generalize Lib.decDigits n = dl at *
    generalize weekT wk = wl at *
    clear b2
    rcases (by omega : k = 1 ∨ k = 2 ∨ k = 3 ∨ k = 4) with rfl | rfl | rfl | rfl
    · go_wp2_with fail
      refine (HD.out _).mono ?_
      rintro e w3 ⟨rfl, hb3⟩
      go_wp2_with fail
      go_ret2
      refine ⟨?_, HB2.out.trans (hb3.mono HB2.out.size)⟩
      rw [HR.out, HT.out]; rfl
    · go_wp2_with fail
      go_ret2
      refine ⟨?_, HB2.out⟩
      rw [HR.out, HT.out]
      simp [ba_append]
    · go_wp2_with fail
      refine (HD.out _).mono ?_
      rintro e w3 ⟨rfl, hb3⟩
      go_wp2_with fail
      go_ret2
      refine ⟨?_, HB2.out.trans (hb3.mono HB2.out.size)⟩
      rw [HR.out, HT.out]
      simp [ba_append]
    · go_wp2_with fail
      refine (HD.out _).mono ?_
      rintro e w3 ⟨rfl, hb3⟩
      go_wp2_with fail
      go_ret2
      refine ⟨?_, HB2.out.trans (hb3.mono HB2.out.size)⟩
      rw [HR.out, HT.out]
      simp [ba_append]
  · have HR := Lib.hid (show printR k wk d = ([], 2) from if_neg hr)
    have HK := Lib.hid (show checkR k wk d = 2 from if_neg hr)
    clear hr
    go_enter Tryz.func75, Tryz.ntmps75
    go_wp2_with fail
    refine HC.out.mono ?_
    rintro e w1 ⟨rfl, hb1⟩
    rw [HK.out]
    have HB1 := Lib.hid (hB0.trans (hb1.mono hB0.size))
    clear hb1 hB0
    go_wp2_with fail
    go_ret2
    exact ⟨by rw [HR.out]; rfl, HB1.out⟩


theorem dec_cut (n : Nat) (h : 10 ≤ n) : Lib.decDigits n = Lib.decDigits (n / 10) ++ Lib.decDigits (n % 10) := by
  have h1 := dec_snoc (n / 10) (n % 10) (by omega) (by omega)
  rw [show n / 10 * 10 + n % 10 = n by omega] at h1
  rw [h1]
  have h2 : ∀ k : Fin 10, Lib.decDigits k.val = [UInt8.ofNat (48 + k.val)] := by decide +kernel
  rw [h2 ⟨n % 10, by omega⟩]
theorem dec_len_le (n : Nat) : ∀ m, n < 10 ^ m → (Lib.decDigits n).length ≤ m + 1 := by
  induction n using Nat.strongRecOn with
  | _ n ih =>
    intro m hm
    by_cases h : n < 10
    · have h2 : ∀ k : Fin 10, (Lib.decDigits k.val).length = 1 := by decide +kernel
      rw [h2 ⟨n, h⟩]; omega
    · rw [dec_cut n (by omega), List.length_append]
      have h2 : ∀ k : Fin 10, (Lib.decDigits k.val).length = 1 := by decide +kernel
      rw [h2 ⟨n % 10, by omega⟩]
      match m, hm with
      | 0, hm => simp at hm; omega
      | m + 1, hm =>
        have := ih (n / 10) (by omega) m (by rw [Nat.pow_succ] at hm; omega)
        omega

set_option maxRecDepth 100000 in
set_option maxHeartbeats 400000 in
theorem decimal_one (n : Nat) (h : n < 10) (w : World) :
    Calls Tryz.prog 112 #[.int .i64 (n : Int)] w fun e w' => e = .returned (.string ⟨(Lib.decDigits n).toArray⟩) ∧ w' = w := by
  have HD := Lib.hid (digit_of n h)
  have h1 : (n : Int) < 10 := by omega
  have h2 : (0 : Int) ≤ (n : Int) := by omega
  go_enter Tryz.func112, Tryz.ntmps112
  go_wp2_with fail
  go_ret
  exact ⟨by rw [← HD.out]; rfl, rfl⟩

theorem ret_str {a b : List UInt8} (h : a = b) : Ending.returned (.string ⟨a.toArray⟩) = .returned (.string ⟨b.toArray⟩) := by rw [h]

set_option maxRecDepth 100000 in
set_option maxHeartbeats 400000 in
theorem decimal_any (n : Nat) (hn : n ≤ 100000000) : ∀ w : World,
    Calls Tryz.prog 112 #[.int .i64 (n : Int)] w fun e w' => e = .returned (.string ⟨(Lib.decDigits n).toArray⟩) ∧ Below w.heap.size w w' := by
  induction n using Nat.strongRecOn with
  | _ n ih =>
    intro w
    by_cases h10 : n < 10
    · exact (decimal_one n h10 w).mono fun e w' ⟨h1, h2⟩ => ⟨h1, h2 ▸ Below.refl _ _⟩
    · have H1 := Lib.hid (ih (n / 10) (by omega) (by omega))
      have H2 := Lib.hid (ih (n % 10) (by omega) (by omega))
      have HT := Lib.hid (dec_cut n (by omega))
      have hl1 : (Lib.decDigits (n / 10)).length ≤ 20 := by have := dec_len_le (n / 10) 9 (by omega); omega
      have hl2 : (Lib.decDigits (n % 10)).length ≤ 20 := by have := dec_len_le (n % 10) 9 (by omega); omega
      have hn1 : ¬ (n : Int) < 10 := by omega
      have e1 : (n : Int) / 10 = ((n / 10 : Nat) : Int) := by omega
      have e2 : (n : Int) % 10 = ((n % 10 : Nat) : Int) := by omega
      clear ih h10
      generalize Lib.decDigits (n / 10) = d1 at *
      generalize Lib.decDigits (n % 10) = d2 at *
      generalize n / 10 = m1 at *
      generalize n % 10 = m2 at *
      go_enter Tryz.func112, Tryz.ntmps112
      go_wp2_with fail
      refine (H1.out _).mono ?_
      rintro e w1 ⟨rfl, hb1⟩
      go_wp2_with fail
      refine (H2.out _).mono ?_
      rintro e w2 ⟨rfl, hb2⟩
      have HB := Lib.hid (hb1.trans (hb2.mono hb1.size))
      clear hb1 hb2
      go_wp2_with fail
      go_ret
      exact ⟨by rw [HT.out]; simp [ba_append], HB.out⟩

theorem two_cut : ∀ n : Fin 100, twoT n.val = Lib.decDigits (n.val / 10) ++ Lib.decDigits (n.val % 10) := by decide +kernel
set_option maxRecDepth 100000 in
set_option maxHeartbeats 400000 in
theorem rtwo_any (n : Nat) (hn : n < 100) (w : World) :
    Calls Tryz.prog 113 #[.int .i64 (n : Int)] w fun e w' => e = .returned (.string ⟨(twoT n).toArray⟩) ∧ Below w.heap.size w w' := by
  have H1 := Lib.hid (decimal_any (n / 10) (by omega))
  have H2 := Lib.hid (decimal_any (n % 10) (by omega))
  have HT := Lib.hid (two_cut ⟨n, hn⟩)
  have hl1 : (Lib.decDigits (n / 10)).length ≤ 20 := by have := dec_len_le (n / 10) 9 (by omega); omega
  have hl2 : (Lib.decDigits (n % 10)).length ≤ 20 := by have := dec_len_le (n % 10) 9 (by omega); omega
  have e1 : (n : Int) / 10 = ((n / 10 : Nat) : Int) := by omega
  have e2 : (n : Int) % 10 = ((n % 10 : Nat) : Int) := by omega
  simp only at HT
  generalize Lib.decDigits (n / 10) = d1 at *
  generalize Lib.decDigits (n % 10) = d2 at *
  generalize n / 10 = m1 at *
  generalize n % 10 = m2 at *
  go_enter Tryz.func113, Tryz.ntmps113
  go_wp2_with fail
  refine (H1.out _).mono ?_
  rintro e w1 ⟨rfl, hb1⟩
  go_wp2_with fail
  refine (H2.out _).mono ?_
  rintro e w2 ⟨rfl, hb2⟩
  have HB := Lib.hid (hb1.trans (hb2.mono hb1.size))
  clear hb1 hb2
  go_wp2_with fail
  go_ret
  exact ⟨by rw [HT.out]; simp [ba_append], HB.out⟩

set_option maxRecDepth 100000 in
set_option maxHeartbeats 1000000 in
theorem r4print_pos (x : Nat) (hx : x ≤ 604799) (w : World) :
    Calls Tryz.prog 77 #[.int .i64 (x : Int)] w fun e w' => e = .returned (.tuple #[.string ⟨(offT x).toArray⟩, .int .i64 0]) ∧ Below w.heap.size w w' := by
  have H1 := Lib.hid (decimal_any (x / 3600) (by omega))
  have H2 := Lib.hid (rtwo_any (x / 60 % 60) (by omega))
  have H3 := Lib.hid (rtwo_any (x % 60) (by omega))
  have hl1 : (Lib.decDigits (x / 3600)).length ≤ 20 := by have := dec_len_le (x / 3600) 9 (by omega); omega
  have hl2 : (twoT (x / 60 % 60)).length ≤ 2 := by rw [twoT_len' _ (by omega)]; omega
  have hl3 : (twoT (x % 60)).length ≤ 2 := by rw [twoT_len' _ (by omega)]; omega
  have HT := Lib.hid (show offT x = Lib.decDigits (x / 3600) ++ [58] ++ twoT (x / 60 % 60) ++ (if x % 60 ≠ 0 then [58] ++ twoT (x % 60) else []) from rfl)
  have e1 : (x : Int) / 3600 = ((x / 3600 : Nat) : Int) := by omega
  have e2 : (x : Int) / 60 % 60 = ((x / 60 % 60 : Nat) : Int) := by omega
  have e3 : (x : Int) % 60 = ((x % 60 : Nat) : Int) := by omega
  have x1 : ¬ (x : Int) < -604799 := by omega
  have x2 : ¬ (604799 : Int) < (x : Int) := by omega
  have x3 : ¬ (x : Int) < 0 := by omega
  have hm3 : x % 60 < 60 := by omega
  generalize Lib.decDigits (x / 3600) = d1 at *
  generalize twoT (x / 60 % 60) = d2 at *
  generalize twoT (x % 60) = d3 at *
  generalize x / 3600 = m1 at *
  generalize x / 60 % 60 = m2 at *
  generalize x % 60 = m3 at *
  have hmb : ((m3 : Int) != 0) = decide (m3 ≠ 0) := by
    by_cases h : m3 = 0
    · subst h; rfl
    · rw [decide_eq_true h]; simpa using h
  by_cases hz : m3 = 0
  · subst hz
    have HT2 := Lib.hid (show offT x = d1 ++ [58] ++ d2 by rw [HT.out]; simp)
    clear HT hmb
    go_enter Tryz.func77, Tryz.ntmps77
    go_wp2_with fail
    refine (H1.out _).mono ?_
    rintro e w1 ⟨rfl, hb1⟩
    go_wp2_with fail
    refine (H2.out _).mono ?_
    rintro e w2 ⟨rfl, hb2⟩
    have HB := Lib.hid (hb1.trans (hb2.mono hb1.size))
    clear hb1 hb2
    go_wp2_with fail
    go_ret2
    exact ⟨by rw [HT2.out]; simp [ba_append], HB.out⟩
  · have HT2 := Lib.hid (show offT x = d1 ++ [58] ++ d2 ++ ([58] ++ d3) by rw [HT.out, if_pos hz])
    have hz1 : ((m3 : Int) != 0) = true := by rw [hmb]; exact decide_eq_true hz
    clear HT hmb hz
    go_enter Tryz.func77, Tryz.ntmps77
    go_wp2_with fail
    refine (H1.out _).mono ?_
    rintro e w1 ⟨rfl, hb1⟩
    go_wp2_with fail
    refine (H2.out _).mono ?_
    rintro e w2 ⟨rfl, hb2⟩
    have HB := Lib.hid (hb1.trans (hb2.mono hb1.size))
    clear hb1 hb2
    go_wp2_with fail
    refine (H3.out _).mono ?_
    rintro e w3 ⟨rfl, hb3⟩
    have HB3 := Lib.hid (HB.out.trans (hb3.mono HB.out.size))
    clear HB hb3
    go_wp2_with fail
    go_ret2
    exact ⟨by rw [HT2.out]; simp [ba_append], HB3.out⟩

set_option maxRecDepth 100000 in
set_option maxHeartbeats 1000000 in
theorem r4print_any (x : Int) (w : World) :
    Calls Tryz.prog 77 #[.int .i64 x] w fun e w' => e = .returned (.tuple #[.string ⟨(offPrintR x).1.toArray⟩, .int .i64 (offPrintR x).2]) ∧ Below w.heap.size w w' := by
  by_cases hr : x < -604799 ∨ 604799 < x
  · have HR := Lib.hid (show offPrintR x = ([], 3) from if_pos hr)
    rcases hr with hr | hr
    · go_enter Tryz.func77, Tryz.ntmps77
      go_wp2_with fail
      go_ret2
      exact ⟨by rw [HR.out]; rfl, Below.refl _ _⟩
    · have h' : ¬ x < -604799 := by omega
      go_enter Tryz.func77, Tryz.ntmps77
      go_wp2_with fail
      go_ret2
      exact ⟨by rw [HR.out]; rfl, Below.refl _ _⟩
  · have HR := Lib.hid (offPrint_ok x (by omega) (by omega))
    obtain ⟨n, hn⟩ : ∃ n, x.natAbs = n := ⟨_, rfl⟩
    by_cases h0 : x < 0
    · have hx : x = -(n : Int) := by omega
      have HP := Lib.hid (r4print_pos n (by omega))
      have HR2 := Lib.hid (show offPrintR x = ([45] ++ offT n, 0) by rw [HR.out, if_pos h0, hn])
      have hl : (offT n).length ≤ 9 := offT_len n (by omega)
      have b1 : ¬ x < -604799 := by omega
      have b2 : ¬ 604799 < x := by omega
      have b3 : -x = (n : Int) := by omega
      clear hr hn hx HR
      generalize offT n = o at *
      go_enter Tryz.func77, Tryz.ntmps77
      go_wp2_with fail
      refine (HP.out _).mono ?_
      rintro e w1 ⟨rfl, hb1⟩
      go_wp2_with fail
      go_ret2
      exact ⟨by rw [HR2.out]; simp [ba_append], hb1⟩
    · obtain rfl : x = (n : Int) := by omega
      rw [HR.out, if_neg h0, hn]
      exact r4print_pos n (by omega) w


def digZ (c : Nat) : Int := if 48 ≤ c ∧ c ≤ 57 then (c : Int) - 48 else -1
theorem digZ_bd (c : Nat) : (digZ c < 0 ∧ digZ c = -1 ∧ ¬ (48 ≤ c ∧ c ≤ 57)) ∨ (0 ≤ digZ c ∧ digZ c ≤ 9 ∧ digZ c = (c : Int) - 48 ∧ 48 ≤ c ∧ c ≤ 57) := by unfold digZ; split <;> omega
def pairZ : List UInt8 → Int
  | a :: b :: _ => if 0 ≤ digZ a.toNat ∧ 0 ≤ digZ b.toNat ∧ digZ a.toNat ≤ 5 then 10 * digZ a.toNat + digZ b.toNat else -1
  | _ => -1
theorem pairZ_bd (l : List UInt8) : -1 ≤ pairZ l ∧ pairZ l ≤ 59 := by
  unfold pairZ
  split
  · rename_i a b r
    have h1 := digZ_bd a.toNat
    have h2 := digZ_bd b.toNat
    split <;> omega
  · omega
theorem drop_two {s : ByteArray} {k : Nat} (h : k + 1 < s.size) : ∃ r, s.data.toList.drop k = (s[k]'(by omega)) :: (s[k + 1]'h) :: r := by
  have hl : s.data.toList.length = s.size := by simp
  refine ⟨s.data.toList.drop (k + 2), ?_⟩
  rw [List.drop_eq_getElem_cons (by omega), List.drop_eq_getElem_cons (by omega)]
  rfl
theorem drop_short {s : ByteArray} {k : Nat} (h : ¬ k + 1 < s.size) : pairZ (s.data.toList.drop k) = -1 := by
  have hl : (s.data.toList.drop k).length ≤ 1 := by simp; omega
  match h' : s.data.toList.drop k, hl with
  | [], _ => rfl
  | [a], _ => rfl
  | a :: b :: r, hl => simp at hl

-- the plain side
theorem partR_pair (c : UInt8) (r : List UInt8) : partR (c :: r) = if c = 58 ∧ 0 ≤ pairZ r then some ((pairZ r).toNat, r.drop 2) else none := by
  show (if c = 58 ∧ digLen 2 r = 2 ∧ valD (r.take 2) ≤ 59 then some (valD (r.take 2), r.drop 2) else none) = _
  match r with
  | [] => simp [digLen, pairZ]
  | [a] =>
    have h : digLen 2 [a] ≠ 2 := by have := (digLen_le 2 [a]).2; simp at this; omega
    simp [h, pairZ]
  | a :: b :: r =>
    have h1 := digZ_bd a.toNat
    have h2 := digZ_bd b.toNat
    by_cases hc : c = 58
    · by_cases ha : 48 ≤ a.toNat ∧ a.toNat ≤ 57
      · by_cases hb : 48 ≤ b.toNat ∧ b.toNat ≤ 57
        · have hd : digLen 2 (a :: b :: r) = 2 := by simp [digLen, ha, hb]
          have hv : valD ((a :: b :: r).take 2) = (a.toNat - 48) * 10 + (b.toNat - 48) := by simp [valD]
          have hp : pairZ (a :: b :: r) = if digZ a.toNat ≤ 5 then 10 * digZ a.toNat + digZ b.toNat else -1 := by
            show (if 0 ≤ digZ a.toNat ∧ 0 ≤ digZ b.toNat ∧ digZ a.toNat ≤ 5 then 10 * digZ a.toNat + digZ b.toNat else -1) = _
            by_cases h5 : digZ a.toNat ≤ 5
            · rw [if_pos (by omega), if_pos h5]
            · rw [if_neg (by omega), if_neg h5]
          by_cases h5 : digZ a.toNat ≤ 5
          · rw [if_pos h5] at hp
            rw [if_pos ⟨hc, hd, by rw [hv]; omega⟩, if_pos ⟨hc, by rw [hp]; omega⟩, hv, hp]
            have : (a.toNat - 48) * 10 + (b.toNat - 48) = (10 * digZ a.toNat + digZ b.toNat).toNat := by omega
            rw [this]
          · rw [if_neg h5] at hp
            rw [if_neg (fun h => by have := h.2.2; rw [hv] at this; omega), if_neg (fun h => by rw [hp] at h; omega)]
        · have hd : digLen 2 (a :: b :: r) ≠ 2 := by simp [digLen, ha, hb]
          have hp : pairZ (a :: b :: r) = -1 := if_neg (by omega)
          rw [if_neg (fun h => hd h.2.1), if_neg (fun h => by rw [hp] at h; omega)]
      · have hd : digLen 2 (a :: b :: r) ≠ 2 := by simp [digLen, ha]
        have hp : pairZ (a :: b :: r) = -1 := if_neg (by omega)
        rw [if_neg (fun h => hd h.2.1), if_neg (fun h => by rw [hp] at h; omega)]
    · rw [if_neg (fun h => hc h.1), if_neg (fun h => hc h.1)]
theorem pairZ_len (l : List UInt8) : pairZ l < 0 ∨ 2 ≤ l.length := by
  match l with
  | [] => exact .inl (by decide)
  | [a] => exact .inl (by show (-1 : Int) < 0; decide)
  | a :: b :: r => exact .inr (by simp)
theorem r4form_none {l : List UInt8} (h : hoursR l = none) : formR l = none := by simp [formR, stR, stepR, h]
theorem r4form_nil {l : List UInt8} {n : Nat} (h : hoursR l = some (n, [])) : formR l = some (3600 * n) := by simp [formR, stR, stepR, h]
theorem r4form_bad {l : List UInt8} {n : Nat} {c : UInt8} {r : List UInt8} (h : hoursR l = some (n, c :: r)) (hp : partR (c :: r) = none) : formR l = none := by simp [formR, stR, stepR, h, hp]
theorem r4form_min {l : List UInt8} {n m : Nat} {c : UInt8} {r : List UInt8} (h : hoursR l = some (n, c :: r)) (hp : partR (c :: r) = some (m, [])) : formR l = some (3600 * n + 60 * m) := by simp [formR, stR, stepR, h, hp]
theorem r4form_bad2 {l : List UInt8} {n m : Nat} {c d : UInt8} {r r2 : List UInt8} (h : hoursR l = some (n, c :: r)) (hp : partR (c :: r) = some (m, d :: r2)) (hq : partR (d :: r2) = none) : formR l = none := by simp [formR, stR, stepR, h, hp, hq]
theorem r4form_sec {l : List UInt8} {n m x : Nat} {c d : UInt8} {r r2 r3 : List UInt8} (h : hoursR l = some (n, c :: r)) (hp : partR (c :: r) = some (m, d :: r2)) (hq : partR (d :: r2) = some (x, r3)) : formR l = if r3 = [] then some (3600 * n + 60 * m + x) else none := by simp [formR, stR, stepR, h, hp, hq]
theorem r4hours_at {l : List UInt8} {k : Nat} (hk : k ≤ 3) (hl : k ≤ l.length) (hd : allD (l.take k)) (hn : ∀ c, (l.drop k).head? = some c → ¬ (48 ≤ c.toNat ∧ c.toNat ≤ 57)) : hoursR l = if k = 0 ∨ (1 < k ∧ l.head? = some 48) then none else some (valD (l.take k), l.drop k) := by
  have h := digLen_app 3 (l.take k) (l.drop k) hd (by simp; omega) hn
  rw [List.take_append_drop, List.length_take, Nat.min_eq_left hl] at h
  unfold hoursR
  rw [h]
theorem r4form_four {l : List UInt8} (hl : 4 ≤ l.length) (hd : allD (l.take 4)) : formR l = none := by
  match l, hl with
  | a :: b :: c :: d :: r, _ =>
    have ha := hd a (by simp)
    have hb := hd b (by simp)
    have hc := hd c (by simp)
    have hd4 := hd d (by simp)
    have hg : digLen 3 (a :: b :: c :: d :: r) = 3 := by simp [digLen, ha, hb, hc]
    cases hh : hoursR (a :: b :: c :: d :: r) with
    | none => exact r4form_none hh
    | some x =>
      unfold hoursR at hh
      rw [hg] at hh
      simp only at hh
      split at hh
      · cases hh
      · cases hh
        refine r4form_bad (n := valD ((a :: b :: c :: d :: r).take 3)) (c := d) (r := r) ?_ ?_
        · unfold hoursR
          rw [hg]
          simp only
          rw [if_neg (by assumption)]
          rfl
        · rw [partR_pair, if_neg]
          rintro ⟨h, _⟩
          subst h
          exact absurd hd4 (by decide)
theorem r4valD_snoc (l : List UInt8) (c : UInt8) : valD (l ++ [c]) = valD l * 10 + (c.toNat - 48) := by simp [valD]
theorem r4valD_lt (l : List UInt8) (h : allD l) : valD l < 10 ^ l.length := by
  have key : ∀ (l : List UInt8) (a : Nat), allD l → l.foldl (fun a c => a * 10 + (c.toNat - 48)) a < (a + 1) * 10 ^ l.length := by
    intro l
    induction l with
    | nil => intro a _; simp
    | cons c l ih =>
      intro a hd
      have hc := hd c (by simp)
      have := ih (a * 10 + (c.toNat - 48)) (fun x hx => hd x (by simp [hx]))
      rw [List.foldl_cons, List.length_cons, Nat.pow_succ]
      refine Nat.lt_of_lt_of_le this ?_
      rw [Nat.mul_comm (10 ^ l.length) 10, ← Nat.mul_assoc]
      exact Nat.mul_le_mul_right _ (by omega)
  have := key l 0 h
  simpa [valD] using this

def formV (o : Option Nat) : Value := .tuple #[.int .i64 ((o.getD 0 : Nat) : Int), .bool o.isSome]
theorem formV_none : formV none = .tuple #[.int .i64 0, .bool false] := rfl
theorem formV_some (n : Nat) : formV (some n) = .tuple #[.int .i64 (n : Int), .bool true] := rfl
set_option maxHeartbeats 1000000 in
theorem r6check_any (x b : Int) (w : World) :
    Calls Tryz.prog 111 #[.agg #[.int .i64 x, .int .i64 b]] w fun e w' => e = .returned (.int .i64 (if clockOk x b = true then 0 else 2)) ∧ Below w.heap.size w w' := by
  by_cases h : clockOk x b = true
  · rw [if_pos h]
    simp only [clockOk, Bool.and_eq_true, decide_eq_true_eq] at h
    obtain ⟨⟨h1, h2⟩, h3, h4⟩ := h
    go_enter Tryz.func111, Tryz.ntmps111
    go_wp2
    go_ret
    exact ⟨rfl, by go_grown⟩
  · rw [if_neg h]
    simp only [clockOk, Bool.and_eq_true, decide_eq_true_eq] at h
    rcases (by omega : x < -604799 ∨ (¬ x < -604799 ∧ 604799 < x) ∨ ((¬ x < -604799 ∧ ¬ 604799 < x) ∧ b < 0) ∨ ((¬ x < -604799 ∧ ¬ 604799 < x) ∧ ¬ b < 0 ∧ 2 < b)) with h1 | ⟨h1, h2⟩ | ⟨⟨h1, h2⟩, h3⟩ | ⟨⟨h1, h2⟩, h3, h4⟩
    all_goals
      clear h
      go_enter Tryz.func111, Tryz.ntmps111
      go_wp2
      go_ret
      exact ⟨rfl, by go_grown⟩
def baseZ (c : Nat) : Int := (baseOf c).getD (-1)
theorem base_cases (c : Nat) : (baseOf c = none ∧ baseZ c < 0) ∨ (baseOf c = some (baseZ c) ∧ 0 ≤ baseZ c ∧ baseZ c ≤ 2) := by
  unfold baseZ baseOf
  split
  · exact .inr ⟨rfl, by decide, by decide⟩
  · split
    · exact .inr ⟨rfl, by decide, by decide⟩
    · split
      · exact .inr ⟨rfl, by decide, by decide⟩
      · exact .inl ⟨rfl, by decide⟩
theorem last_byte {s : ByteArray} (h : 0 < s.size) : s.data.toList.getLast? = some (s[s.size - 1]'(by omega)) := by
  have hl : s.data.toList.length = s.size := by simp
  rw [List.getLast?_eq_getElem?, List.getElem?_eq_getElem (by omega)]
  simp only [hl]
  rfl
theorem front_list {s : ByteArray} (h : 0 < s.size) : (s.extract 0 (s.size - 1)).data.toList = s.data.toList.dropLast := by
  have hl : s.data.toList.length = s.size := by simp
  rw [list_upto, List.dropLast_eq_take, hl]

set_option maxRecDepth 100000 in
set_option maxHeartbeats 2000000 in
theorem r6print_any (x b : Int) (w : World) :
    Calls Tryz.prog 76 #[.agg #[.int .i64 x, .int .i64 b]] w fun e w' => e = .returned (.tuple #[.string ⟨(clockPrintR x b).1.toArray⟩, .int .i64 (clockPrintR x b).2]) ∧ Below w.heap.size w w' := by
  have hB0 : Below w.heap.size w (w.alloc (.cells #[.int .i64 x, .int .i64 b] 45)) := (Below.refl _ _).alloc (Nat.le_refl _) _
  have HC := Lib.hid (r6check_any x b (w.alloc (.cells #[.int .i64 x, .int .i64 b] 45)))
  by_cases h : clockOk x b = true
  · rw [if_pos h] at HC
    have HR := Lib.hid (show clockPrintR x b = (clockT x b, 0) from if_pos h)
    simp only [clockOk, Bool.and_eq_true, decide_eq_true_eq] at h
    obtain ⟨⟨h1, h2⟩, h3, h4⟩ := h
    have HO := Lib.hid (fun W => r4print_any x W)
    simp only [offPrint_ok x h1 h2] at HO
    have hol := offT_len x.natAbs (by omega)
    have HT := Lib.hid (show clockT x b = ((if x < 0 then [45] else []) ++ offT x.natAbs) ++ (if b = 1 then [115] else if b = 2 then [117] else []) from rfl)
    have hol2 : ((if x < 0 then [45] else []) ++ offT x.natAbs : List UInt8).length ≤ 10 := by split <;> simp <;> omega
    generalize ((if x < 0 then [45] else []) ++ offT x.natAbs : List UInt8) = ot at *
    clear hol
    rcases (by omega : b = 0 ∨ b = 1 ∨ b = 2) with rfl | rfl | rfl
    all_goals
      go_enter Tryz.func76, Tryz.ntmps76
      go_wp2_with fail
      refine HC.out.mono ?_
      rintro e w1 ⟨rfl, hb1⟩
      have b0 := (Blk.new' w 45 _ rfl).below hb1 (by simp)
      have c0 : w1.cell? ⟨w.heap.size, 0, none⟩ = some (.int .i64 x) := b0.cell_ rfl
      have HB1 := Lib.hid (And.intro b0 (hB0.trans (hb1.mono (by simp))))
      clear b0 hb1 hB0 HC
      go_wp2_with fail
      refine (HO.out _).mono ?_
      rintro e w2 ⟨rfl, hb2⟩
      have HB2 := Lib.hid (And.intro (HB1.out.1.below hb2 HB1.out.1.lt) (HB1.out.2.trans (hb2.mono HB1.out.2.size)))
      have d1 := HB2.out.1.cell_ (i := 1) rfl
      clear hb2 HB1 c0 HO
      go_wp2_with fail
      go_ret2
      refine ⟨?_, HB2.out.2⟩
      rw [HR.out, HT.out]
      first
        | exact conv_join _ _
        | simp
  · rw [if_neg h] at HC
    have HR := Lib.hid (show clockPrintR x b = ([], 2) from if_neg h)
    clear h
    go_enter Tryz.func76, Tryz.ntmps76
    go_wp2_with fail
    refine HC.out.mono ?_
    rintro e w1 ⟨rfl, hb1⟩
    have HB1 := Lib.hid (hB0.trans (hb1.mono (by simp)))
    clear hb1 hB0
    go_wp2_with fail
    go_ret2
    exact ⟨by rw [HR.out]; rfl, HB1.out⟩
end Go.Proofs.YtmcgbjjcpcgcfaaGreatDoor
