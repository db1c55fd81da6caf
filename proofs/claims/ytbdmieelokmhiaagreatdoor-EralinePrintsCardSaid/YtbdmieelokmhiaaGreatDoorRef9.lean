/-
  The references of layer 8: small, find, weeks, Week, short, WeekText return what the program's functions return.
  The references of layer 9: number, last, sign, digits, Check, Parse, Print return what the program's functions return.
  The references of layers 9 and 2: digits, Check, Parse, Print return what the program's functions return.
-/
import Derived.Test.YtbdmieelokmhiaaGreatDoorWordText
import Derived.Test.YtbdmieelokmhiaaGreatDoorStrs
import Derived.Deep.QuietTactic
import Derived.BigQuiet
import Derived.Handy
import Derived.Deep.RegionHeld3
import Derived.Test.YtbdmieelokmhiaaGreatDoorDayParse
import Derived.Test.YtbdmieelokmhiaaGreatDoorDayPrint
set_option linter.unusedVariables false
namespace Go.Proofs.YtbdmieelokmhiaaGreatDoor
open Go.RowKit

theorem Tryz.info_u8 : (Tryz.prog.info? 5).map (fun i => (i.zero, i.size, i.bytes)) = some (some (.int .u8 0), 1, 1) := by kernel_rfl
def u8s (l : List UInt8) : List Value := l.map fun c => Value.int .u8 (c.toNat : Int)
theorem bytesIn_of {w : World} {B n : Nat} {A : Option Addr} {l : List UInt8} (h : Reads w B 1 A n (u8s l)) : Lib.BytesIn w A n (l.map fun c => (c.toNat : Int)) := fun hn => by
  obtain ⟨ad, rfl, _, hc⟩ := h.2 hn
  have hl : l.length = n := by have := h.1; simpa [u8s] using this
  exact Lib.BytesIn.of_cells (fun i hi => hc i _ (by simp [u8s, List.getElem?_eq_getElem (show i < l.length by omega)])) hn
theorem str_of_u8s (l : List UInt8) : strOfNums (l.map fun c => (c.toNat : Int)) = ⟨l.toArray⟩ := by
  have e : (l.map ((fun n : Int => UInt8.ofNat n.toNat) ∘ fun c : UInt8 => (c.toNat : Int))) = l := by
    rw [show ((fun n : Int => UInt8.ofNat n.toNat) ∘ fun c : UInt8 => (c.toNat : Int)) = id from funext fun c => by simp]
    simp
  simp [strOfNums, e]
theorem small_snoc (s : ByteArray) (k : Nat) (h : k < s.size) : u8s ((smallL s.data.toList).take (k + 1)) = u8s ((smallL s.data.toList).take k) ++ [.int .u8 (lowZ ((s[k]'h).toNat : Int))] := by
  have hl : k < (smallL s.data.toList).length := by simp [smallL, h]
  rw [List.take_succ_eq_append_getElem hl]
  simp only [u8s, List.map_append, List.map_cons, List.map_nil]
  congr 3
  have e : (smallL s.data.toList)[k] = lowA (s[k]'h) := by simp [smallL]; rfl
  rw [e, ← lowZ_A]
  have := lowZ_bd (c := ((s[k]'h).toNat : Int)) ⟨by omega, by have := (s[k]'h).toNat_lt; omega⟩
  simp
  omega

set_option maxHeartbeats 1000000 in
theorem rsmall_any (s : ByteArray) (w : World) (hs : s.size ≤ 1048576) :
    Calls Tryz.prog 146 #[.string s] w fun e w' => e = .returned (.string ⟨(smallL s.data.toList).toArray⟩) ∧ Below w.heap.size w w' := by
  obtain ⟨i0, hi, hz0, hz1, hz2⟩ := info_parts Tryz.info_u8
  go_enter Tryz.func146, Tryz.ntmps146
  go_wp2_with fail
  go_loopw [3, 4] (fun v i wr => ∃ k : Nat, k ≤ s.size ∧ i = .int .i64 k ∧ wr.ownsRow w.heap.size 5 1 v k (u8s ((smallL s.data.toList).take k)) ∧ Below w.heap.size w wr) (fun _ i _ => s.size - (intOf i).toNat)
  case atStart => exact ⟨0, Nat.zero_le _, rfl, World.ownsRow_nil _ _ _ _, Below.refl _ _⟩
  case round =>
    obtain ⟨k, hk, rfl, hown, hb⟩ := hrel
    by_cases hlt : k < s.size
    · have HS := Lib.hid (small_snoc s k hlt)
      obtain ⟨c, hc⟩ : ∃ c : Nat, c = (s[k]'hlt).toNat := ⟨_, rfl⟩
      have g0 : ∀ h, (s[k]'h).toNat = c := fun _ => hc.symm
      have hc256 : c < 256 := by rw [hc]; exact (s[k]'hlt).toNat_lt
      rw [← hc] at HS
      clear hc
      have hd : decide (k < s.size) = true := by simp [hlt]
      by_cases h65 : 65 ≤ c ∧ c ≤ 90
      · have HZ := Lib.hid (show lowZ (c : Int) = (c : Int) + 97 - 65 by rw [lowZ, if_pos (by omega)]; omega)
        have e1 : 65 ≤ (c : Int) := by omega
        have e2 : (c : Int) ≤ 90 := by omega
        go_wp2_with (at_builtin; refine wpList_append_own _ rfl (.tmp 24) (.tmp 26) 80 rfl w.heap.size 5 i0 (.int .u8 0) 1 1 Tryz.underlying80 hi hz0 hz1 hz2 rfl (by decide) _ _ _ rfl (hown.alloc _) ⟨wr.heap.size, 0, none⟩ 1 1 [.int .u8 ((c : Int) + 97 - 65)] ?c0 rfl ?c1 ?c2 ?c3 ?c4 ?c5 ?_)
        case c0 => rfl
        case c1 => exact cell_one_new _ _ _
        case c2 => intro u hu; simp at hu; subst hu; rfl
        case c3 => unfold maxLen; omega
        case c4 => omega
        case c5 => have := hb.size; simp; omega
        intro v' w1 hown' hgrow _
        have hb1 := below_push hb hb.size hown hgrow
        have HO := Lib.hid (show w1.ownsRow w.heap.size 5 1 v' (k + 1) (u8s ((smallL s.data.toList).take (k + 1))) by rw [HS.out, HZ.out]; exact hown')
        clear hown' hgrow hown hb
        go_wp2
        go_roundw
        case rel => exact ⟨k + 1, by omega, by go_num, HO.out, hb1⟩
        case measure => simp [intOf]; omega
      · have HZ := Lib.hid (show lowZ (c : Int) = (c : Int) by rw [lowZ, if_neg (by omega)])
        have e1 : (65 ≤ (c : Int) ∧ ¬ (c : Int) ≤ 90) ∨ ¬ 65 ≤ (c : Int) := by omega
        rcases e1 with ⟨e1, e2⟩ | e1
        · go_wp2_with (at_builtin; refine wpList_append_own _ rfl (.tmp 24) (.tmp 26) 80 rfl w.heap.size 5 i0 (.int .u8 0) 1 1 Tryz.underlying80 hi hz0 hz1 hz2 rfl (by decide) _ _ _ rfl (hown.alloc _) ⟨wr.heap.size, 0, none⟩ 1 1 [.int .u8 (c : Int)] rfl rfl (cell_one_new _ _ _) (fun u hu => by simp at hu; subst hu; rfl) (by unfold maxLen; omega) (by omega) (by have := hb.size; simp; omega) ?_; intro v' w1 hown' hgrow _; have tok := hgrow)
          have hb1 := below_push hb hb.size hown hgrow
          have HO := Lib.hid (show w1.ownsRow w.heap.size 5 1 v' (k + 1) (u8s ((smallL s.data.toList).take (k + 1))) by rw [HS.out, HZ.out]; exact hown')
          clear hown' hgrow hown hb
          go_wp2
          go_roundw
          case rel => exact ⟨k + 1, by omega, by go_num, HO.out, hb1⟩
          case measure => simp [intOf]; omega
        · go_wp2_with (at_builtin; refine wpList_append_own _ rfl (.tmp 24) (.tmp 26) 80 rfl w.heap.size 5 i0 (.int .u8 0) 1 1 Tryz.underlying80 hi hz0 hz1 hz2 rfl (by decide) _ _ _ rfl (hown.alloc _) ⟨wr.heap.size, 0, none⟩ 1 1 [.int .u8 (c : Int)] rfl rfl (cell_one_new _ _ _) (fun u hu => by simp at hu; subst hu; rfl) (by unfold maxLen; omega) (by omega) (by have := hb.size; simp; omega) ?_; intro v' w1 hown' hgrow _; have tok := hgrow)
          have hb1 := below_push hb hb.size hown hgrow
          have HO := Lib.hid (show w1.ownsRow w.heap.size 5 1 v' (k + 1) (u8s ((smallL s.data.toList).take (k + 1))) by rw [HS.out, HZ.out]; exact hown')
          clear hown' hgrow hown hb
          go_wp2
          go_roundw
          case rel => exact ⟨k + 1, by omega, by go_num, HO.out, hb1⟩
          case measure => simp [intOf]; omega
    · obtain rfl : k = s.size := by omega
      have hd : decide (s.size < s.size) = false := by simp
      obtain ⟨A, cap, rfl, _, hR⟩ := own_slice hown
      rw [List.take_of_length_le (by simp [smallL])] at hR
      have hcv := Lib.BytesIn.convert (P := Tryz.prog) (bytesIn_of hR) (by simp [smallL]) cap 80 5 9 Tryz.underlying80 Tryz.underlying5 Tryz.underlying9
      rw [str_of_u8s] at hcv
      clear hR hown
      go_wp2_with fail
      go_ret
      exact ⟨rfl, hb⟩

def foundI (ps : List (Nat × List UInt8)) : Int := (ps.getLast?.map fun p => (p.1 : Int)).getD (-1)
/-- what find of the references answers: the index of the word, and the error -/
def findRR (ws : List (List UInt8)) (s : List UInt8) : Int × Int := if (wordF ws s).2 = true then (((wordF ws s).1 : Int), 0) else (0, 8)

set_option maxRecDepth 100000 in
set_option maxHeartbeats 1000000 in
theorem rfind_any (b cap : Nat) (ws : List (List UInt8)) (s : ByteArray) (w : World) (hc : ∀ j l, ws[j]? = some l → w.cell? ⟨b, j, none⟩ = some (.string ⟨l.toArray⟩)) (hb : b < w.heap.size) (hlen : ws.length ≤ 100) (hne : ∀ l ∈ ws, l ≠ [] ∧ l.length ≤ 100) (hs : s.size ≤ 1048576) :
    Calls Tryz.prog 107 #[.slice (some ⟨b, 0, none⟩) ws.length cap, .string s] w fun e w' => e = .returned (.tuple #[.int .i64 (findRR ws s.data.toList).1, .int .i64 (findRR ws s.data.toList).2]) ∧ Below w.heap.size w w' := by
  have HF := Lib.hid (show findRR ws s.data.toList = if (findP (begTo (smallL s.data.toList) ws ws.length) (smallL s.data.toList)).2 = true then (((findP (begTo (smallL s.data.toList) ws ws.length) (smallL s.data.toList)).1 : Int), 0) else (0, 8) from rfl)
  have HC := Lib.hid hc
  have HN := Lib.hid hne
  have htl : (smallL s.data.toList).length ≤ 1048576 := by simp [smallL]; omega
  clear hc hne
  go_enter Tryz.func107, Tryz.ntmps107
  go_wp2_with fail
  refine (rsmall_any s w hs).mono ?_
  rintro e w1 ⟨rfl, hb1⟩
  have HC1 := Lib.hid (show ∀ j l, ws[j]? = some l → w1.cell? ⟨b, j, none⟩ = some (.string ⟨l.toArray⟩) from fun j l hl => (hb1.cell (p := ⟨b, j, none⟩) hb).trans (HC.out j l hl))
  have HB1 := Lib.hid hb1
  clear hb1 HC
  generalize smallL s.data.toList = t at *
  go_wp2_with fail
  go_loop [6, 7, 8] (fun f n i => ∃ k : Nat, k ≤ ws.length ∧ i = .int .i64 k ∧ f = .int .i64 (foundI (begTo t ws k)) ∧ n = .int .i64 ((begTo t ws k).length : Int) ∧ ∀ p ∈ begTo t ws k, p.2 ≠ t) (fun _ _ i => ws.length - (intOf i).toNat)
  case atStart => exact ⟨0, Nat.zero_le _, rfl, rfl, rfl, by simp [begTo_zero]⟩
  case round =>
    obtain ⟨k, hk, rfl, rfl, rfl, hq⟩ := hrel
    have HQ := Lib.hid hq
    have hbl := begTo_len t ws k
    clear hq
    by_cases hlt : k < ws.length
    · obtain ⟨l, hl⟩ : ∃ l, ws[k]? = some l := ⟨_, List.getElem?_eq_getElem hlt⟩
      have c0 := HC1.out k l hl
      obtain ⟨hl0, hl100⟩ := HN.out l (List.mem_of_getElem? hl)
      have HL := Lib.hid hl
      have hd : decide (k < ws.length) = true := by simp [hlt]
      clear hl
      by_cases hlt2 : l = t
      · subst hlt2
        have hh : hits l (ws[k]?.getD []) = true := by
          rw [HL.out]
          simp [hits, Lib.hasPrefix, hl0]
        have hst := findP_stop (k := k + 1) hlt (begTo_hit hh) (by rw [HL.out]; rfl) HQ.out
        have HST := Lib.hid hst
        clear hh hst
        go_wp2_with fail
        go_ret2
        exact ⟨by rw [HF.out, HST.out]; rfl, HB1.out⟩
      · have hb2 : (l == t) = false := beq_eq_false_iff_ne.2 hlt2
        cases t with
        | nil =>
          have hh : hits [] (ws[k]?.getD []) = false := rfl
          have HM := Lib.hid (begTo_miss hh)
          clear hh
          go_wp2_with fail
          go_round
          case rel => exact ⟨k + 1, by omega, by go_num, by rw [HM.out], by rw [HM.out], by rw [HM.out]; exact HQ.out⟩
          case measure => simp [intOf]; omega
        | cons x xs =>
          have htl2 : xs.length + 1 ≤ 1048576 := by simpa using htl
          have hex : ((⟨l.toArray⟩ : ByteArray).extract 0 (xs.length + 1)).toList = l.take (xs.length + 1) := by
            rw [ByteArray.toList_eq]; simp
          by_cases hh : hits (x :: xs) (ws[k]?.getD []) = true
          · have hp : l.take (xs.length + 1) = x :: xs := by
              rw [HL.out] at hh
              simp only [hits, Option.getD_some, Bool.and_eq_true] at hh
              have := pre_take (l := l) (p := x :: xs)
              rw [hh.2] at this
              simpa using this
            have hlen2 : xs.length + 1 < l.length := by
              have h1 := congrArg List.length hp
              simp at h1
              apply Classical.byContradiction
              intro hn
              exact hlt2 (by rw [← hp, List.take_of_length_le (by omega)])
            have hx : (((⟨l.toArray⟩ : ByteArray).extract 0 (xs.length + 1)).toList == x :: xs) = true := by rw [hex, hp]; simp
            have HM := Lib.hid (begTo_hit hh)
            rw [HL.out] at HM
            have hd2 : decide (xs.length + 1 < l.length) = true := by simp [hlen2]
            clear hh hex hp
            go_wp2_with fail
            go_round
            case rel =>
              refine ⟨k + 1, by omega, by go_num, by rw [HM.out]; simp [foundI], by rw [HM.out]; simp, ?_⟩
              rw [HM.out]
              intro p hp
              rcases List.mem_append.1 hp with h | h
              · exact HQ.out p h
              · simp at h; subst h; exact hlt2
            case measure => simp [intOf]; omega
          · have HM := Lib.hid (begTo_miss (Bool.eq_false_iff.2 hh))
            by_cases hlen2 : xs.length + 1 < l.length
            · have hd2 : decide (xs.length + 1 < l.length) = true := by simp [hlen2]
              have hx : (((⟨l.toArray⟩ : ByteArray).extract 0 (xs.length + 1)).toList == x :: xs) = false := by
                rw [hex]
                have := pre_take (l := l) (p := x :: xs)
                rw [show l.take (xs.length + 1) = l.take (x :: xs).length from rfl, this]
                rw [HL.out] at hh
                simpa [hits] using hh
              clear hh hex
              go_wp2_with fail
              go_round
              case rel => exact ⟨k + 1, by omega, by go_num, by rw [HM.out], by rw [HM.out], by rw [HM.out]; exact HQ.out⟩
              case measure => simp [intOf]; omega
            · have hd2 : decide (xs.length + 1 < l.length) = false := by simp [hlen2]
              clear hh hex
              go_wp2_with fail
              go_round
              case rel => exact ⟨k + 1, by omega, by go_num, by rw [HM.out], by rw [HM.out], by rw [HM.out]; exact HQ.out⟩
              case measure => simp [intOf]; omega
    · have hd : decide (k < ws.length) = false := by simp [hlt]
      obtain rfl : k = ws.length := by omega
      have HP := Lib.hid (findP_none HQ.out)
      by_cases h1 : (begTo t ws ws.length).length = 1
      · have h1b : (((begTo t ws ws.length).length : Int) != 1) = false := by rw [h1]; rfl
        go_wp2_with fail
        go_ret2
        refine ⟨?_, HB1.out⟩
        rw [HF.out, HP.out]
        obtain ⟨p, hp⟩ := List.length_eq_one_iff.1 h1
        rw [hp]
        rfl
      · have h1b : (((begTo t ws ws.length).length : Int) != 1) = true := by rw [bne_iff_ne]; omega
        go_wp2_with fail
        go_ret2
        refine ⟨?_, HB1.out⟩
        rw [HF.out, HP.out]
        simp only
        rw [if_neg (by simpa using h1)]
        rfl

def weeksO : Obj := .cells #[.string ⟨#[115, 117, 110, 100, 97, 121]⟩, .string ⟨#[109, 111, 110, 100, 97, 121]⟩, .string ⟨#[116, 117, 101, 115, 100, 97, 121]⟩, .string ⟨#[119, 101, 100, 110, 101, 115, 100, 97, 121]⟩, .string ⟨#[116, 104, 117, 114, 115, 100, 97, 121]⟩, .string ⟨#[102, 114, 105, 100, 97, 121]⟩, .string ⟨#[115, 97, 116, 117, 114, 100, 97, 121]⟩] 9
set_option maxHeartbeats 400000 in
theorem rweeks_any (w : World) : Calls Tryz.prog 124 #[] w fun e w' => e = .returned (.slice (some ⟨w.heap.size, 0, none⟩) 7 7) ∧ w' = w.alloc weeksO := by
  go_enter Tryz.func124, Tryz.ntmps124
  go_wp2
  go_ret
  exact ⟨rfl, rfl⟩
theorem weeksO_cell (w : World) (j : Nat) (l : List UInt8) (hl : weekL[j]? = some l) : (w.alloc weeksO).cell? ⟨w.heap.size, j, none⟩ = some (.string ⟨l.toArray⟩) := by
  have b : Blk (w.alloc weeksO) w.heap.size 9 #[.string ⟨#[115, 117, 110, 100, 97, 121]⟩, .string ⟨#[109, 111, 110, 100, 97, 121]⟩, .string ⟨#[116, 117, 101, 115, 100, 97, 121]⟩, .string ⟨#[119, 101, 100, 110, 101, 115, 100, 97, 121]⟩, .string ⟨#[116, 104, 117, 114, 115, 100, 97, 121]⟩, .string ⟨#[102, 114, 105, 100, 97, 121]⟩, .string ⟨#[115, 97, 116, 117, 114, 100, 97, 121]⟩] := Blk.new' w _ _ rfl
  have hlt : j < 7 := (List.getElem?_eq_some_iff.1 hl).1
  rcases (by omega : j = 0 ∨ j = 1 ∨ j = 2 ∨ j = 3 ∨ j = 4 ∨ j = 5 ∨ j = 6) with rfl | rfl | rfl | rfl | rfl | rfl | rfl
  all_goals (cases hl; exact b.cell_ rfl)

set_option maxHeartbeats 400000 in
theorem rweek_any (s : ByteArray) (w : World) (hs : s.size ≤ 1048576) :
    Calls Tryz.prog 110 #[.string s] w fun e w' => e = .returned (.tuple #[.int .i64 (weekR s.data.toList).1, .int .i64 (weekR s.data.toList).2]) ∧ Below w.heap.size w w' := by
  have HF := Lib.hid (rfind_any w.heap.size 7 weekL s (w.alloc weeksO) (weeksO_cell w) (by simp) (by decide) (by decide) hs)
  go_enter Tryz.func110, Tryz.ntmps110
  go_wp2_with fail
  refine (rweeks_any w).mono ?_
  rintro e w1 ⟨rfl, rfl⟩
  go_wp2_with fail
  refine HF.out.mono ?_
  rintro e w1 ⟨rfl, hb⟩
  have HB := Lib.hid (((Below.refl _ w).alloc (Nat.le_refl _) weeksO).trans (hb.mono (by simp)))
  clear hb
  go_wp2_with fail
  go_ret2
  exact ⟨rfl, HB.out⟩

theorem upper_str (a : UInt8) (ha : 97 ≤ a.toNat ∧ a.toNat ≤ 122) : strOfNums [(a.toNat : Int) - 97 + 65] = ⟨#[Lib.upperB a]⟩ := by
  have h : ∀ n : Fin 26, Lib.upperB (UInt8.ofNat (97 + n.val)) = UInt8.ofNat (65 + n.val) := by decide
  have h1 := h ⟨a.toNat - 97, by omega⟩
  simp only at h1
  rw [show 97 + (a.toNat - 97) = a.toNat by omega, show UInt8.ofNat a.toNat = a by simp] at h1
  rw [h1]
  simp only [strOfNums, List.map_cons, List.map_nil]
  rw [show ((a.toNat : Int) - 97 + 65).toNat = 65 + (a.toNat - 97) by omega]
theorem conv_one (W : World) (x : Int) (s : ByteArray) (hs : strOfNums [x] = s) :
    (convert 80 9 (.slice (some ⟨W.heap.size, 0, none⟩) 1 1)).run Tryz.prog (W.alloc (.cells #[.int .u8 x] 5)) = .ok (.string s) (W.alloc (.cells #[.int .u8 x] 5)) := by
  have hin : Lib.BytesIn (W.alloc (.cells #[.int .u8 x] 5)) (some ⟨W.heap.size, 0, none⟩) 1 [x] := Lib.BytesIn.of_cells fun i hi => by
    obtain rfl : i = 0 := by omega
    simp [Addr.add, World.cell?_alloc_new]
  rw [← hs]
  exact Lib.BytesIn.convert (P := Tryz.prog) hin rfl 1 80 5 9 Tryz.underlying80 Tryz.underlying5 Tryz.underlying9
theorem conv_one_drew (W : World) (x : Int) (s : ByteArray) (hs : strOfNums [x] = s) :
    (convert 80 9 (.slice (some ⟨W.heap.size, 0, none⟩) 1 1)).run Tryz.prog (W.alloc (.cells #[.int .u8 x] 5)).drew = .ok (.string s) (W.alloc (.cells #[.int .u8 x] 5)).drew := by
  have hin : Lib.BytesIn (W.alloc (.cells #[.int .u8 x] 5)).drew (some ⟨W.heap.size, 0, none⟩) 1 [x] := Lib.BytesIn.of_cells fun i hi => by
    obtain rfl : i = 0 := by omega
    simp [Addr.add, World.cell?_alloc_new]
  rw [← hs]
  exact Lib.BytesIn.convert (P := Tryz.prog) hin rfl 1 80 5 9 Tryz.underlying80 Tryz.underlying5 Tryz.underlying9

set_option maxRecDepth 100000 in
set_option maxHeartbeats 400000 in
theorem rshort_any (a b c : UInt8) (l : List UInt8) (ha : 97 ≤ a.toNat ∧ a.toNat ≤ 122) (hl : l.length < 100) (w : World) :
    Calls Tryz.prog 75 #[.string ⟨(a :: b :: c :: l).toArray⟩] w fun e w' => e = .returned (.string ⟨#[Lib.upperB a, b, c]⟩) ∧ Below w.heap.size w w' := by
  obtain ⟨s, hs⟩ : ∃ s : ByteArray, s = ⟨(a :: b :: c :: l).toArray⟩ := ⟨_, rfl⟩
  have hsz : s.size = l.length + 3 := by rw [hs]; show (a :: b :: c :: l).length = _; simp
  have h13 : s.extract 1 3 = ⟨#[b, c]⟩ := by rw [hs]; apply ByteArray.ext; simp [ByteArray.data_extract]
  have g0 : ∀ h, ((s[0]'h).toNat) = a.toNat := by subst hs; intro h; rfl
  rw [← hs]
  have z0 : (0 : Int) < (s.size : Int) := by omega
  have z3 : (3 : Int) ≤ (s.size : Int) := by omega
  have h63 : ¬ (9223372036854775807 < 1 + (min 3 s.size - 1)) := by omega
  have x1 : IntKind.u8.wrap ((a.toNat : Int) - 97) = (a.toNat : Int) - 97 := by rw [IntKind.wrap_u8]; omega
  have x2 : IntKind.u8.wrap ((a.toNat : Int) - 97 + 65) = (a.toNat : Int) - 97 + 65 := by rw [IntKind.wrap_u8]; omega
  have hcv : ∀ W : World, (convert 80 9 (.slice (some ⟨W.heap.size, 0, none⟩) 1 1)).run Tryz.prog (W.alloc (.cells #[.int .u8 ((a.toNat : Int) - 97 + 65)] 5)) = .ok (.string ⟨#[Lib.upperB a]⟩) (W.alloc (.cells #[.int .u8 ((a.toNat : Int) - 97 + 65)] 5)) := fun W => conv_one W _ _ (upper_str a ha)
  have hcv2 : ∀ W : World, (convert 80 9 (.slice (some ⟨W.heap.size, 0, none⟩) 1 1)).run Tryz.prog (W.alloc (.cells #[.int .u8 ((a.toNat : Int) - 97 + 65)] 5)).drew = .ok (.string ⟨#[Lib.upperB a]⟩) (W.alloc (.cells #[.int .u8 ((a.toNat : Int) - 97 + 65)] 5)).drew := fun W => conv_one_drew W _ _ (upper_str a ha)
  have HS := Lib.hid hsz
  have H13 := Lib.hid h13
  clear hs hsz h13
  go_enter Tryz.func75, Tryz.ntmps75
  go_wp2_with fail
  go_region_with (fail)
  all_goals
    go_wp2_with fail
    go_ret
    exact ⟨by rw [H13.out]; rfl, by go_grown⟩

theorem weekL_low (i : Nat) (hi : i < 7) : ∃ a b c l, weekL[i]? = some (a :: b :: c :: l) ∧ (97 ≤ a.toNat ∧ a.toNat ≤ 122) ∧ l.length < 100 ∧ weekT (i : Int) = [Lib.upperB a, b, c] := by
  rcases (by omega : i = 0 ∨ i = 1 ∨ i = 2 ∨ i = 3 ∨ i = 4 ∨ i = 5 ∨ i = 6) with rfl | rfl | rfl | rfl | rfl | rfl | rfl
  all_goals exact ⟨_, _, _, _, rfl, by decide, by decide, by decide⟩

set_option maxHeartbeats 400000 in
theorem rweekText_any (i : Int) (w : World) :
    Calls Tryz.prog 73 #[.int .i64 i] w fun e w' => e = .returned (.string ⟨(weekT i).toArray⟩) ∧ Below w.heap.size w w' := by
  by_cases hi : 0 ≤ i ∧ i < 7
  · obtain ⟨n, rfl⟩ := Int.eq_ofNat_of_zero_le hi.1
    obtain ⟨a, b, c, l, hl, ha, hn, ht⟩ := weekL_low n (by omega)
    have hc := weeksO_cell w n _ hl
    have HT := Lib.hid ht
    have i0 : (0 : Int) ≤ (n : Int) := by omega
    have i6 : (n : Int) < 7 := by omega
    have i7 : ¬ (6 < (n : Int)) := by omega
    clear hi hl ht
    go_enter Tryz.func73, Tryz.ntmps73
    go_wp2_with fail
    refine (rweeks_any w).mono ?_
    rintro e w1 ⟨rfl, rfl⟩
    generalize hW : w.alloc weeksO = W at *
    have HB := Lib.hid (show Below w.heap.size w W by rw [← hW]; exact (Below.refl _ w).alloc (Nat.le_refl _) _)
    clear hW
    go_wp2_with fail
    refine (rshort_any a b c l ha hn _).mono ?_
    rintro e w1 ⟨rfl, hb⟩
    go_wp2_with fail
    go_ret
    exact ⟨by rw [HT.out]; rfl, HB.out.trans (hb.mono HB.out.size)⟩
  · have HT := Lib.hid (show weekT i = [] from if_neg hi)
    by_cases h0 : i < 0
    · clear hi
      go_enter Tryz.func73, Tryz.ntmps73
      go_wp2_with fail
      go_ret
      exact ⟨by rw [HT.out]; rfl, Below.refl _ _⟩
    · have h6 : 6 < i := by omega
      clear hi
      go_enter Tryz.func73, Tryz.ntmps73
      go_wp2_with fail
      go_ret
      exact ⟨by rw [HT.out]; rfl, Below.refl _ _⟩


set_option maxHeartbeats 400000 in
theorem rnumber_out (s : ByteArray) (w : World) (hs : s.size < 1 ∨ 2 < s.size) :
    Calls Tryz.prog 111 #[.string s] w fun e w' => e = .returned (.tuple #[.int .i64 0, .int .i64 5]) ∧ w = w' := by
  rcases hs with hs | hs
  all_goals
    go_enter Tryz.func111, Tryz.ntmps111
    go_wp2_with fail
    go_ret2
    exact ⟨rfl, rfl⟩

set_option maxRecDepth 100000 in
set_option maxHeartbeats 1000000 in
theorem rnumber_one (a : UInt8) (w : World) :
    Calls Tryz.prog 111 #[.string ⟨#[a]⟩] w fun e w' => e = .returned (.tuple #[.int .i64 (numR [a]).1, .int .i64 (numR [a]).2]) ∧ w = w' := by
  have g0 : ∀ h, ((⟨#[a]⟩ : ByteArray)[0]'h).toNat = a.toNat := fun _ => rfl
  by_cases h0 : a.toNat = 48
  · have hb : ((a.toNat : Int) == 48) = true := beq_iff_eq.2 (by omega)
    have hN := Lib.hid (show numR [a] = (0, 5) by simp only [numR]; rw [if_neg (by omega)])
    clear h0
    go_enter Tryz.func111, Tryz.ntmps111
    go_wp2_with fail
    go_ret2
    exact ⟨by rw [hN.out]; rfl, rfl⟩
  · have hb : ((a.toNat : Int) == 48) = false := beq_eq_false_iff_ne.2 (by omega)
    have h256 := a.toNat_lt
    by_cases k : 48 ≤ a.toNat ∧ a.toNat ≤ 57
    · have hN := Lib.hid (show numR [a] = ((a.toNat : Int) - 48, 0) by simp only [numR]; rw [if_pos (by omega)])
      have k1 : ¬ ((a.toNat : Int) < 48) := by omega
      have k2 : ¬ (57 < (a.toNat : Int)) := by omega
      clear h0
      go_enter Tryz.func111, Tryz.ntmps111
      go_wp2_with fail
      go_rounds 2
      all_goals (go_ret2; exact ⟨by rw [hN.out]; rfl, rfl⟩)
    · have hN := Lib.hid (show numR [a] = (0, 5) by simp only [numR]; rw [if_neg (by omega)])
      rcases (by omega : (a.toNat : Int) < 48 ∨ (¬ (a.toNat : Int) < 48 ∧ 57 < (a.toNat : Int))) with k1 | ⟨k1, k2⟩
      all_goals
        clear k h0
        go_enter Tryz.func111, Tryz.ntmps111
        go_wp2_with fail
        go_rounds 2
        all_goals (go_ret2; exact ⟨by rw [hN.out]; rfl, rfl⟩)

set_option maxRecDepth 100000 in
set_option maxHeartbeats 2000000 in
theorem rnumber_two (a b : UInt8) (w : World) :
    Calls Tryz.prog 111 #[.string ⟨#[a, b]⟩] w fun e w' => e = .returned (.tuple #[.int .i64 (numR [a, b]).1, .int .i64 (numR [a, b]).2]) ∧ w = w' := by
  have g0 : ∀ h, ((⟨#[a, b]⟩ : ByteArray)[0]'h).toNat = a.toNat := fun _ => rfl
  have g1 : ∀ h, ((⟨#[a, b]⟩ : ByteArray)[1]'h).toNat = b.toNat := fun _ => rfl
  have h256 := a.toNat_lt
  have h257 := b.toNat_lt
  by_cases h0 : a.toNat = 48
  · have hb : ((a.toNat : Int) == 48) = true := beq_iff_eq.2 (by omega)
    have hN := Lib.hid (show numR [a, b] = (0, 5) by simp only [numR]; rw [if_neg (by omega)])
    clear h0
    go_enter Tryz.func111, Tryz.ntmps111
    go_wp2_with fail
    go_ret2
    exact ⟨by rw [hN.out]; rfl, rfl⟩
  · have hb : ((a.toNat : Int) == 48) = false := beq_eq_false_iff_ne.2 (by omega)
    by_cases k : 48 ≤ a.toNat ∧ a.toNat ≤ 57
    · have k1 : ¬ ((a.toNat : Int) < 48) := by omega
      have k2 : ¬ (57 < (a.toNat : Int)) := by omega
      by_cases j : 48 ≤ b.toNat ∧ b.toNat ≤ 57
      · have j1 : ¬ ((b.toNat : Int) < 48) := by omega
        have j2 : ¬ (57 < (b.toNat : Int)) := by omega
        by_cases h31 : 10 * (a.toNat - 48) + (b.toNat - 48) ≤ 31
        · have hN := Lib.hid (show numR [a, b] = (10 * ((a.toNat : Int) - 48) + ((b.toNat : Int) - 48), 0) by simp only [numR]; rw [if_pos (by omega), if_pos h31])
          have h31i : ¬ (31 < 10 * ((a.toNat : Int) - 48) + ((b.toNat : Int) - 48)) := by omega
          clear h0 k j h31
          go_enter Tryz.func111, Tryz.ntmps111
          go_wp2_with fail
          go_rounds 3
          all_goals (go_ret2; exact ⟨by rw [hN.out]; rfl, rfl⟩)
        · have hN := Lib.hid (show numR [a, b] = (0, 3) by simp only [numR]; rw [if_pos (by omega), if_neg h31])
          have h31i : 31 < 10 * ((a.toNat : Int) - 48) + ((b.toNat : Int) - 48) := by omega
          clear h0 k j h31
          go_enter Tryz.func111, Tryz.ntmps111
          go_wp2_with fail
          go_rounds 3
          all_goals (go_ret2; exact ⟨by rw [hN.out]; rfl, rfl⟩)
      · have hN := Lib.hid (show numR [a, b] = (0, 5) by simp only [numR]; rw [if_neg (by omega)])
        rcases (by omega : (b.toNat : Int) < 48 ∨ (¬ (b.toNat : Int) < 48 ∧ 57 < (b.toNat : Int))) with j1 | ⟨j1, j2⟩
        all_goals
          clear k h0 j
          go_enter Tryz.func111, Tryz.ntmps111
          go_wp2_with fail
          go_rounds 3
          all_goals (go_ret2; exact ⟨by rw [hN.out]; rfl, rfl⟩)
    · have hN := Lib.hid (show numR [a, b] = (0, 5) by simp only [numR]; rw [if_neg (by omega)])
      rcases (by omega : (a.toNat : Int) < 48 ∨ (¬ (a.toNat : Int) < 48 ∧ 57 < (a.toNat : Int))) with k1 | ⟨k1, k2⟩
      all_goals
        clear k h0
        go_enter Tryz.func111, Tryz.ntmps111
        go_wp2_with fail
        go_rounds 3
        all_goals (go_ret2; exact ⟨by rw [hN.out]; rfl, rfl⟩)

theorem rnumber_any (s : ByteArray) (w : World) :
    Calls Tryz.prog 111 #[.string s] w fun e w' => e = .returned (.tuple #[.int .i64 (numR s.data.toList).1, .int .i64 (numR s.data.toList).2]) ∧ w = w' := by
  obtain ⟨⟨l⟩⟩ := s
  match l with
  | [] => exact rnumber_out _ w (.inl (by decide))
  | [a] => exact rnumber_one a w
  | [a, b] => exact rnumber_two a b w
  | a :: b :: c :: l => exact rnumber_out _ w (.inr (by show 2 < (a :: b :: c :: l).length; simp))

def signR (s : List UInt8) : Int × Bool := if 0 ≤ Lib.indexAny s signs then (Lib.indexAny s signs, Lib.hasPrefix (s.drop ((Lib.indexAny s signs).toNat + 1)) [61]) else (0, false)
theorem byte_at (s : ByteArray) (k : Nat) (h : k < s.size) : ∃ c : UInt8, s.data.toList[k]? = some c ∧ ∀ h', (s[k]'h').toNat = c.toNat :=
  ⟨_, Lib.data_getElem? s k h, fun _ => rfl⟩
theorem pre_iff (l : List UInt8) (k : Nat) : Lib.hasPrefix (l.drop k) [61] = decide (l[k]? = some 61) := by
  rw [Bool.eq_iff_iff, decide_eq_true_iff]
  constructor
  · intro h
    have := pre_one h
    rwa [List.getElem?_drop] at this
  · intro h
    have hk : k < l.length := (List.getElem?_eq_some_iff.1 h).1
    rw [List.drop_eq_getElem_cons hk]
    have : l[k] = 61 := by rw [List.getElem?_eq_getElem hk] at h; exact Option.some.inj h
    simp [Lib.hasPrefix, this]

set_option maxRecDepth 100000 in
set_option maxHeartbeats 1000000 in
theorem rsign_any (s : ByteArray) (hs : s.size ≤ 1048576) (w : World) :
    Calls Tryz.prog 109 #[.string s] w fun e w' => e = .returned (.tuple #[.int .i64 (signR s.data.toList).1, .bool (signR s.data.toList).2]) ∧ Below w.heap.size w w' := by
  go_enter Tryz.func109, Tryz.ntmps109
  go_wp2_with fail
  go_loop [4] (fun i => ∃ k : Nat, k ≤ s.size ∧ i = .int .i64 k ∧ Lib.NoAny s.data.toList signs k) (fun i => s.size - (intOf i).toNat)
  case atStart => exact ⟨0, Nat.zero_le _, rfl, Lib.NoAny.zero _ _⟩
  case round =>
    obtain ⟨k, hk, rfl, hn⟩ := hrel
    have HN := Lib.hid hn
    clear hn
    by_cases hlt : k < s.size
    · obtain ⟨c, hc, g0⟩ := byte_at s k hlt
      have HC := Lib.hid hc
      have hd : decide (k < s.size) = true := by simp [hlt]
      have k0 : (0 : Int) ≤ (k : Int) := by omega
      have k1 : (k : Int) < (s.size : Int) := by omega
      clear hc
      by_cases hsg : signs.contains c = true
      · have hi := Lib.indexAny_hit HN.out HC.out hsg
        have HR := Lib.hid (show signR s.data.toList = ((k : Int), decide (s.data.toList[k + 1]? = some 61)) by
          rw [signR, hi, if_pos (by omega), Int.toNat_natCast, pre_iff])
        have hwr : IntKind.i64.wrap ((k : Int) + 1) = (k : Int) + 1 := IntWalk.i64_in _ (by omega)
        have htn : ((k : Int) + 1).toNat = k + 1 := by omega
        have hcc : c = 60 ∨ c = 62 := by simpa [signs] using hsg
        clear hi hsg
        by_cases h1 : k + 1 < s.size
        · obtain ⟨c', hc', g1⟩ := byte_at s (k + 1) h1
          rw [hc'] at HR
          have d1 : (0 : Int) ≤ (k : Int) + 1 := by omega
          have d2 : (k : Int) + 1 < (s.size : Int) := by omega
          have d3 : decide ((k : Int) + 1 < (s.size : Int)) = true := by simp [d2]
          have HE := Lib.hid (show decide (some c' = some (61 : UInt8)) = ((c'.toNat : Int) == 61) by
            rw [Bool.eq_iff_iff]; simp; constructor
            · intro h; subst h; rfl
            · intro h; exact UInt8.toNat_inj.1 (by show c'.toNat = 61; omega))
          clear hc'
          rcases hcc with rfl | rfl
          all_goals
            have g0 : ∀ h, (s[k]'h).toNat = _ := g0
            go_wp2_with fail
            go_quiet (fail)
            go_wp2_with fail
            go_ret2
            exact ⟨by rw [HR.out, HE.out]; rfl, below_drawn (Below.refl _ _) _⟩
        · have hnone : s.data.toList[k + 1]? = none := List.getElem?_eq_none (by rw [size_data]; omega)
          rw [hnone] at HR
          have d3 : decide ((k : Int) + 1 < (s.size : Int)) = false := by simp; omega
          clear hnone
          rcases hcc with rfl | rfl
          all_goals
            have g0 : ∀ h, (s[k]'h).toNat = _ := g0
            go_wp2_with fail
            go_quiet (fail)
            go_wp2_with fail
            go_ret2
            exact ⟨by rw [HR.out]; rfl, below_drawn (Below.refl _ _) _⟩
      · have HN2 := Lib.hid (HN.out.succ HC.out (Bool.eq_false_iff.2 hsg))
        have e1 : ((c.toNat : Int) == 60) = false := beq_eq_false_iff_ne.2 (fun e => hsg (by rw [show c = 60 from UInt8.toNat_inj.1 (by show c.toNat = 60; omega)]; rfl))
        have e2 : ((c.toNat : Int) == 62) = false := beq_eq_false_iff_ne.2 (fun e => hsg (by rw [show c = 62 from UInt8.toNat_inj.1 (by show c.toNat = 62; omega)]; rfl))
        clear hsg
        go_wp2_with fail
        go_round
        case rel => exact ⟨k + 1, by omega, by go_num, HN2.out⟩
        case measure => simp [intOf]; omega
    · obtain rfl : k = s.size := by omega
      have hd : decide (s.size < s.size) = false := by simp
      have HR := Lib.hid (show signR s.data.toList = (0, false) by
        rw [signR, Lib.indexAny_none (by rw [size_data]; exact HN.out)]; rfl)
      go_wp2_with fail
      go_ret2
      exact ⟨by rw [HR.out]; rfl, Below.refl _ _⟩

/-- whether a string begins with the word last -/
def lastR (s : List UInt8) : Bool := decide (4 ≤ s.length) && Lib.equalFold (s.take 4) lastL
theorem rlast_step (x y z : UInt8) (hy : 97 ≤ y.toNat ∧ y.toNat ≤ 122) (hz : z.toNat + 32 = y.toNat) : Lib.foldEq x y = decide (x.toNat = y.toNat ∨ x.toNat = z.toNat) := by
  unfold Lib.foldEq
  rw [decide_eq_decide]
  omega
def lastU : List UInt8 := [76, 65, 83, 84]
theorem last_at (k : Nat) (hk : k < 4) : ∃ y z : UInt8, lastL[k]? = some y ∧ (97 ≤ y.toNat ∧ y.toNat ≤ 122) ∧ z.toNat + 32 = y.toNat ∧ (∀ h, ((⟨#[108, 97, 115, 116]⟩ : ByteArray)[k]'h).toNat = y.toNat) ∧ (∀ h, ((⟨#[76, 65, 83, 84]⟩ : ByteArray)[k]'h).toNat = z.toNat) := by
  rcases (by omega : k = 0 ∨ k = 1 ∨ k = 2 ∨ k = 3) with rfl | rfl | rfl | rfl
  · exact ⟨108, 76, rfl, by decide, by decide, fun _ => rfl, fun _ => rfl⟩
  · exact ⟨97, 65, rfl, by decide, by decide, fun _ => rfl, fun _ => rfl⟩
  · exact ⟨115, 83, rfl, by decide, by decide, fun _ => rfl, fun _ => rfl⟩
  · exact ⟨116, 84, rfl, by decide, by decide, fun _ => rfl, fun _ => rfl⟩
def linv (s : List UInt8) (k : Nat) : Prop := Lib.equalFold ((s.take 4).drop k) (lastL.drop k) = Lib.equalFold (s.take 4) lastL
theorem linv_drop (s : List UInt8) (k : Nat) (x y : UInt8) (hk : k < 4) (hx : s[k]? = some x) (hy : lastL[k]? = some y) : (s.take 4).drop k = x :: (s.take 4).drop (k + 1) ∧ lastL.drop k = y :: lastL.drop (k + 1) := by
  have h1 : (s.take 4)[k]? = some x := by rw [List.getElem?_take, if_pos hk]; exact hx
  obtain ⟨a1, a2⟩ := List.getElem?_eq_some_iff.1 h1
  obtain ⟨b1, b2⟩ := List.getElem?_eq_some_iff.1 hy
  exact ⟨by rw [List.drop_eq_getElem_cons a1, a2], by rw [List.drop_eq_getElem_cons b1, b2]⟩

set_option maxRecDepth 100000 in
set_option maxHeartbeats 1000000 in
theorem rlast_any (s : ByteArray) (hs : s.size ≤ 1048576) (w : World) :
    Calls Tryz.prog 112 #[.string s] w fun e w' => e = .returned (.bool (lastR s.data.toList)) ∧ Below w.heap.size w w' := by
  by_cases h4 : s.size < 4
  · have HR := Lib.hid (show lastR s.data.toList = false by rw [lastR, size_data, decide_eq_false (by omega)]; rfl)
    go_enter Tryz.func112, Tryz.ntmps112
    go_wp2_with fail
    go_ret
    exact ⟨by rw [HR.out]; rfl, Below.refl _ _⟩
  · have HR := Lib.hid (show lastR s.data.toList = Lib.equalFold (s.data.toList.take 4) lastL by rw [lastR, size_data, decide_eq_true (by omega)]; rfl)
    go_enter Tryz.func112, Tryz.ntmps112
    go_wp2_with fail
    go_loopw [3] (fun i wr => ∃ k : Nat, k ≤ 4 ∧ i = .int .i64 k ∧ linv s.data.toList k ∧ Below w.heap.size w wr) (fun i _ => 4 - (intOf i).toNat)
    case atStart => exact ⟨0, by omega, rfl, rfl, Below.refl _ _⟩
    case round =>
      obtain ⟨k, hk, rfl, hi, hb⟩ := hrel
      have HI := Lib.hid hi
      have HB := Lib.hid hb
      clear hi hb
      by_cases hlt : k < 4
      · obtain ⟨c, hc, g0⟩ := byte_at s k (by omega)
        obtain ⟨y, z, hy, hy2, hz, g1, g2⟩ := last_at k hlt
        obtain ⟨d1, d2⟩ := linv_drop _ k c y hlt hc hy
        have HF := Lib.hid (rlast_step c y z hy2 hz)
        have HD := Lib.hid (And.intro d1 d2)
        have k0 : (0 : Int) ≤ (k : Int) := by omega
        have k1 : (k : Int) < (s.size : Int) := by omega
        have k2 : (k : Int) < 4 := by omega
        clear hc hy d1 d2
        by_cases e1 : c.toNat = y.toNat
        · have b1 : ((c.toNat : Int) != (y.toNat : Int)) = false := by simp [e1]
          have HS := Lib.hid (show linv s.data.toList (k + 1) by
            have := HI.out
            rw [linv, HD.out.1, HD.out.2, Lib.equalFold_yes _ _ _ _ (by rw [HF.out]; simp [e1])] at this
            exact this)
          clear e1
          go_wp2_with fail
          go_quiet (fail)
          go_wp2_with fail
          go_roundw
          case rel => exact ⟨k + 1, by omega, by go_num, HS.out, below_drawn HB.out _⟩
          case measure => simp [intOf]; omega
        · have b1 : ((c.toNat : Int) != (y.toNat : Int)) = true := by rw [bne_iff_ne]; omega
          by_cases e2 : c.toNat = z.toNat
          · have b2 : ((c.toNat : Int) != (z.toNat : Int)) = false := by simp [e2]
            have HS := Lib.hid (show linv s.data.toList (k + 1) by
              have := HI.out
              rw [linv, HD.out.1, HD.out.2, Lib.equalFold_yes _ _ _ _ (by rw [HF.out]; simp [e2])] at this
              exact this)
            clear e1 e2
            go_wp2_with fail
            go_quiet (fail)
            go_wp2_with fail
            go_roundw
            case rel => exact ⟨k + 1, by omega, by go_num, HS.out, below_drawn HB.out _⟩
            case measure => simp [intOf]; omega
          · have b2 : ((c.toNat : Int) != (z.toNat : Int)) = true := by rw [bne_iff_ne]; omega
            have HS := Lib.hid (show Lib.equalFold (s.data.toList.take 4) lastL = false by
              have := HI.out
              rw [linv, HD.out.1, HD.out.2, Lib.equalFold_no _ _ _ _ (by rw [HF.out]; simp [e1, e2])] at this
              exact this.symm)
            clear e1 e2
            go_wp2_with fail
            go_quiet (fail)
            go_wp2_with fail
            go_ret
            exact ⟨by rw [HR.out, HS.out]; rfl, below_drawn HB.out _⟩
      · obtain rfl : k = 4 := by omega
        have HS := Lib.hid (show Lib.equalFold (s.data.toList.take 4) lastL = true by
          have := HI.out
          rw [linv, List.drop_of_length_le (by rw [List.length_take]; omega)] at this
          exact this.symm)
        go_wp2_with fail
        go_ret
        exact ⟨by rw [HR.out, HS.out]; rfl, HB.out⟩


theorem digit_ext : ∀ k : Fin 10, ((⟨#[48, 49, 50, 51, 52, 53, 54, 55, 56, 57]⟩ : ByteArray).extract k.val (k.val + 1)).data.toList = Lib.decDigits k.val := by decide +kernel
theorem digit_of (k : Nat) (h : k < 10) : (⟨#[48, 49, 50, 51, 52, 53, 54, 55, 56, 57]⟩ : ByteArray).extract k (k + 1) = ⟨(Lib.decDigits k).toArray⟩ := by
  have := digit_ext ⟨k, h⟩
  apply ByteArray.ext
  rw [← Array.toList_inj]
  exact this
theorem digit_two : ∀ k : Fin 100, 10 ≤ k.val → Lib.decDigits k.val = Lib.decDigits (k.val / 10) ++ Lib.decDigits (k.val % 10) := by decide +kernel

set_option maxHeartbeats 400000 in
theorem rdigits_one (n : Nat) (h : n < 10) (w : World) :
    Calls Tryz.prog 74 #[.int .i64 (n : Int)] w fun e w' => e = .returned (.string ⟨(Lib.decDigits n).toArray⟩) ∧ w' = w := by
  have HD := Lib.hid (digit_of n h)
  have h1 : (n : Int) < 10 := by omega
  have h2 : (0 : Int) ≤ (n : Int) := by omega
  go_enter Tryz.func74, Tryz.ntmps74
  go_wp2_with fail
  go_ret
  exact ⟨by rw [← HD.out]; rfl, rfl⟩

set_option maxRecDepth 100000 in
set_option maxHeartbeats 1000000 in
theorem rdigits_any (n : Nat) (h : n < 100) (w : World) :
    Calls Tryz.prog 74 #[.int .i64 (n : Int)] w fun e w' => e = .returned (.string ⟨(Lib.decDigits n).toArray⟩) ∧ Below w.heap.size w w' := by
  by_cases h10 : n < 10
  · exact (rdigits_one n h10 w).mono fun e w' ⟨h1, h2⟩ => ⟨h1, h2 ▸ Below.refl _ _⟩
  · obtain ⟨d, hd⟩ : ∃ d, d = n / 10 := ⟨_, rfl⟩
    obtain ⟨m, hm⟩ : ∃ m, m = n % 10 := ⟨_, rfl⟩
    have HT := Lib.hid (show Lib.decDigits n = Lib.decDigits d ++ Lib.decDigits m by rw [hd, hm]; exact digit_two ⟨n, h⟩ (by simp; omega))
    have hd10 : d < 10 := by omega
    have hm10 : m < 10 := by omega
    have HD := Lib.hid (digit_of m hm10)
    have q1 : (n : Int).tdiv 10 = (d : Int) := by
      rw [Int.tdiv_eq_ediv_of_nonneg (by omega)]; omega
    have q2 : (n : Int).tmod 10 = (m : Int) := by
      rw [Int.tmod_eq_emod_of_nonneg (by omega)]; omega
    have q3 : IntKind.i64.wrap ((m : Int) + 1) = (m : Int) + 1 := IntWalk.i64_in _ (by omega)
    have q4 : IntKind.i64.wrap (d : Int) = (d : Int) := IntWalk.i64_in _ (by omega)
    have q5 : ((m : Int) + 1).toNat = m + 1 := by omega
    have m0 : (0 : Int) ≤ (m : Int) := by omega
    have m1 : (0 : Int) ≤ (m : Int) + 1 := by omega
    have m2 : (m : Int) + 1 ≤ 10 := by omega
    have m3 : (m : Int) ≤ (m : Int) + 1 := by omega
    have hn1 : ¬ (n : Int) < 10 := by omega
    have hl : (Lib.decDigits d).length ≤ 100 := by
      have h3 : ∀ k : Fin 10, (Lib.decDigits k.val).length ≤ 100 := by decide +kernel
      exact h3 ⟨d, by omega⟩
    have HQ := Lib.hid (fun w => rdigits_one d hd10 w)
    clear h hd hm h10
    generalize Lib.decDigits d = dl at *
    go_enter Tryz.func74, Tryz.ntmps74
    go_wp2_with fail
    go_quiet ((go_at_call 74; exact Calls.quiet_of_same (HQ.out _)))
    go_wp2_with fail
    go_ret
    refine ⟨?_, below_drawn (Below.refl _ _) _⟩
    rw [HT.out, HD.out]
    simp [ba_append]

def inB (n a b : Int) : Bool := decide (a ≤ n ∧ n ≤ b)
set_option maxHeartbeats 400000 in
theorem rin_any (n a b : Int) (w : World) :
    Calls Tryz.prog 123 #[.int .i64 n, .int .i64 a, .int .i64 b] w fun e w' => e = .returned (.bool (inB n a b)) ∧ w' = w := by
  by_cases h1 : a ≤ n
  · by_cases h2 : n ≤ b
    · have HD := Lib.hid (show inB n a b = true from decide_eq_true ⟨h1, h2⟩)
      go_enter Tryz.func123, Tryz.ntmps123
      go_wp2_with fail
      go_ret
      exact ⟨by rw [HD.out]; rfl, rfl⟩
    · have HD := Lib.hid (show inB n a b = false from decide_eq_false (fun h => h2 h.2))
      go_enter Tryz.func123, Tryz.ntmps123
      go_wp2_with fail
      go_ret
      exact ⟨by rw [HD.out]; rfl, rfl⟩
  · have HD := Lib.hid (show inB n a b = false from decide_eq_false (fun h => h1 h.1))
    go_enter Tryz.func123, Tryz.ntmps123
    go_wp2_with fail
    go_ret
    exact ⟨by rw [HD.out]; rfl, rfl⟩

theorem right_eq (k wk d : Int) : rightDay k wk d = ((k == 1 && wk == 0 && inB d 1 31) || (k == 2 && inB wk 0 6 && d == 0) || ((k == 3 || k == 4) && inB wk 0 6 && inB d 1 31)) := rfl

set_option maxRecDepth 100000 in
set_option maxHeartbeats 4000000 in
theorem rcheck_any (k wk d : Int) (w : World) :
    Calls Tryz.prog 69 #[.agg #[.int .i64 k, .int .i64 wk, .int .i64 d]] w fun e w' => e = .returned (.int .i64 (checkR k wk d)) ∧ Below w.heap.size w w' := by
  have HI := Lib.hid (fun w => rin_any wk 0 6 w)
  have HJ := Lib.hid (fun w => rin_any d 1 31 w)
  have HR := Lib.hid (show checkR k wk d = if ((k == 1 && wk == 0 && inB d 1 31) || (k == 2 && inB wk 0 6 && d == 0) || ((k == 3 || k == 4) && inB wk 0 6 && inB d 1 31)) = true then 0 else 2 from rfl)
  generalize inB wk 0 6 = p at *
  generalize inB d 1 31 = q at *
  have hk : (k == 1) = true ∨ ((k == 1) = false ∧ (k == 2) = true) ∨ ((k == 1) = false ∧ (k == 2) = false ∧ (k == 3) = true) ∨ ((k == 1) = false ∧ (k == 2) = false ∧ (k == 3) = false ∧ (k == 4) = true) ∨ ((k == 1) = false ∧ (k == 2) = false ∧ (k == 3) = false ∧ (k == 4) = false) := by
    simp only [beq_iff_eq, beq_eq_false_iff_ne, ne_eq]; omega
  rcases hk with h1 | ⟨h1, h2⟩ | ⟨h1, h2, h3⟩ | ⟨h1, h2, h3, h4⟩ | ⟨h1, h2, h3, h4⟩
  · obtain rfl : k = 1 := by simpa using h1
    clear h1
    cases q <;> cases hw : (wk == 0)
    all_goals
      rw [hw] at HR
      go_enter Tryz.func69, Tryz.ntmps69
      go_wp2_with fail
      go_quiet ((go_at_call 123; first | (with_reducible exact Calls.quiet_of_same (HI.out _)) | (with_reducible exact Calls.quiet_of_same (HJ.out _))))
      go_wp2_with fail
      go_ret
      exact ⟨by rw [HR.out]; simp, below_drawn ((Below.refl _ _).alloc (Nat.le_refl _) _) _⟩
  · obtain rfl : k = 2 := by simpa using h2
    clear h1 h2
    cases p <;> cases hw : (d == 0)
    all_goals
      rw [hw] at HR
      go_enter Tryz.func69, Tryz.ntmps69
      go_wp2_with fail
      go_quiet ((go_at_call 123; first | (with_reducible exact Calls.quiet_of_same (HI.out _)) | (with_reducible exact Calls.quiet_of_same (HJ.out _))))
      go_wp2_with fail
      go_ret
      exact ⟨by rw [HR.out]; simp, below_drawn ((Below.refl _ _).alloc (Nat.le_refl _) _) _⟩
  · obtain rfl : k = 3 := by simpa using h3
    clear h1 h2 h3
    cases p <;> cases q
    all_goals
      go_enter Tryz.func69, Tryz.ntmps69
      go_wp2_with fail
      go_quiet ((go_at_call 123; first | (with_reducible exact Calls.quiet_of_same (HI.out _)) | (with_reducible exact Calls.quiet_of_same (HJ.out _))))
      go_wp2_with fail
      go_ret
      exact ⟨by rw [HR.out]; simp, below_drawn ((Below.refl _ _).alloc (Nat.le_refl _) _) _⟩
  · obtain rfl : k = 4 := by simpa using h4
    clear h1 h2 h3 h4
    cases p <;> cases q
    all_goals
      go_enter Tryz.func69, Tryz.ntmps69
      go_wp2_with fail
      go_quiet ((go_at_call 123; first | (with_reducible exact Calls.quiet_of_same (HI.out _)) | (with_reducible exact Calls.quiet_of_same (HJ.out _))))
      go_wp2_with fail
      go_ret
      exact ⟨by rw [HR.out]; simp, below_drawn ((Below.refl _ _).alloc (Nat.le_refl _) _) _⟩
  · rw [h1, h2, h3, h4] at HR
    go_enter Tryz.func69, Tryz.ntmps69
    go_wp2_with fail
    go_quiet ((go_at_call 123; first | (with_reducible exact Calls.quiet_of_same (HI.out _)) | (with_reducible exact Calls.quiet_of_same (HJ.out _))))
    go_wp2_with fail
    go_ret
    exact ⟨by rw [HR.out]; simp, below_drawn ((Below.refl _ _).alloc (Nat.le_refl _) _) _⟩
end Go.Proofs.YtbdmieelokmhiaaGreatDoor
