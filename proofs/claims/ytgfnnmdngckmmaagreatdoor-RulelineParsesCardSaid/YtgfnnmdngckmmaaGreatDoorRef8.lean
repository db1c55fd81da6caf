/-
  The references of layer 8: small, find, weeks, Week, short, WeekText return what the program's functions return.
-/
import Derived.Test.YtgfnnmdngckmmaaGreatDoorWordText
import Derived.Test.YtgfnnmdngckmmaaGreatDoorStrs
import Derived.Deep.QuietTactic
import Derived.BigQuiet
import Derived.Handy
import Derived.Deep.RegionHeld3
set_option linter.unusedVariables false
namespace Go.Proofs.YtgfnnmdngckmmaaGreatDoor
open Go.RowKit

theorem Tryz.info_u8 : (Tryz.prog.info? 5).map (fun i => (i.zero, i.size, i.bytes)) = some (some (.int .u8 0), 1, 1) := by kernel_rfl
def u8s (l : List UInt8) : List Value := l.map fun c => Value.int .u8 (c.toNat : Int)
theorem bytesIn_of {w : World} {B n : Nat} {A : Option Addr} {l : List UInt8} (h : Reads w B 1 A n (u8s l)) : Lib.BytesIn w A n (l.map fun c => (c.toNat : Int)) := fun hn => by
  obtain ⟨ad, rfl, _, hc⟩ := h.2 hn
  have hl : l.length = n := by have := h.1; simpa [u8s] using this
  exact Lib.BytesIn.of_cells (fun i hi => hc i _ (by simp [u8s, List.getElem?_eq_getElem (show i < l.length by omega)])) hn
theorem str_of_u8s (l : List UInt8) : strOfNums (l.map fun c => (c.toNat : Int)) = ⟨l.toArray⟩ := by
  have e : (l.map ((fun n : Int => UInt8.ofNat n.toNat) ∘ fun c : UInt8 => (c.toNat : Int))) = l := by
    rw [show ((fun n : Int => UInt8.ofNat n.toNat) ∘ fun c : UInt8 => (c.toNat : Int)) = id from funext fun c => by simp]
    simp
  simp [strOfNums, e]
theorem small_snoc (s : ByteArray) (k : Nat) (h : k < s.size) : u8s ((smallL s.data.toList).take (k + 1)) = u8s ((smallL s.data.toList).take k) ++ [.int .u8 (lowZ ((s[k]'h).toNat : Int))] := by
  have hl : k < (smallL s.data.toList).length := by simp [smallL, h]
  rw [List.take_succ_eq_append_getElem hl]
  simp only [u8s, List.map_append, List.map_cons, List.map_nil]
  congr 3
  have e : (smallL s.data.toList)[k] = lowA (s[k]'h) := by simp [smallL]; rfl
  rw [e, ← lowZ_A]
  have := lowZ_bd (c := ((s[k]'h).toNat : Int)) ⟨by omega, by have := (s[k]'h).toNat_lt; omega⟩
  simp
  omega

set_option maxHeartbeats 1000000 in
theorem rsmall_any (s : ByteArray) (w : World) (hs : s.size ≤ 1048576) :
    Calls Tryz.prog 112 #[.string s] w fun e w' => e = .returned (.string ⟨(smallL s.data.toList).toArray⟩) ∧ Below w.heap.size w w' := by
  obtain ⟨i0, hi, hz0, hz1, hz2⟩ := info_parts Tryz.info_u8
  go_enter Tryz.func112, Tryz.ntmps112
  go_wp2_with fail
  go_loopw [3, 4] (fun v i wr => ∃ k : Nat, k ≤ s.size ∧ i = .int .i64 k ∧ wr.ownsRow w.heap.size 5 1 v k (u8s ((smallL s.data.toList).take k)) ∧ Below w.heap.size w wr) (fun _ i _ => s.size - (intOf i).toNat)
  case atStart => exact ⟨0, Nat.zero_le _, rfl, World.ownsRow_nil _ _ _ _, Below.refl _ _⟩
  case round =>
    obtain ⟨k, hk, rfl, hown, hb⟩ := hrel
    by_cases hlt : k < s.size
    · have HS := Lib.hid (small_snoc s k hlt)
      obtain ⟨c, hc⟩ : ∃ c : Nat, c = (s[k]'hlt).toNat := ⟨_, rfl⟩
      have g0 : ∀ h, (s[k]'h).toNat = c := fun _ => hc.symm
      have hc256 : c < 256 := by rw [hc]; exact (s[k]'hlt).toNat_lt
      rw [← hc] at HS
      clear hc
      have hd : decide (k < s.size) = true := by simp [hlt]
      by_cases h65 : 65 ≤ c ∧ c ≤ 90
      · have HZ := Lib.hid (show lowZ (c : Int) = (c : Int) + 97 - 65 by rw [lowZ, if_pos (by omega)]; omega)
        have e1 : 65 ≤ (c : Int) := by omega
        have e2 : (c : Int) ≤ 90 := by omega
        go_wp2_with (at_builtin; refine wpList_append_own _ rfl (.tmp 24) (.tmp 26) 77 rfl w.heap.size 5 i0 (.int .u8 0) 1 1 Tryz.underlying77 hi hz0 hz1 hz2 rfl (by decide) _ _ _ rfl (hown.alloc _) ⟨wr.heap.size, 0, none⟩ 1 1 [.int .u8 ((c : Int) + 97 - 65)] ?c0 rfl ?c1 ?c2 ?c3 ?c4 ?c5 ?_)
        case c0 => rfl
        case c1 => exact cell_one_new _ _ _
        case c2 => intro u hu; simp at hu; subst hu; rfl
        case c3 => unfold maxLen; omega
        case c4 => omega
        case c5 => have := hb.size; simp; omega
        intro v' w1 hown' hgrow _
        have hb1 := below_push hb hb.size hown hgrow
        have HO := Lib.hid (show w1.ownsRow w.heap.size 5 1 v' (k + 1) (u8s ((smallL s.data.toList).take (k + 1))) by rw [HS.out, HZ.out]; exact hown')
        clear hown' hgrow hown hb
        go_wp2
        go_roundw
        case rel => exact ⟨k + 1, by omega, by go_num, HO.out, hb1⟩
        case measure => simp [intOf]; omega
      · have HZ := Lib.hid (show lowZ (c : Int) = (c : Int) by rw [lowZ, if_neg (by omega)])
        have e1 : (65 ≤ (c : Int) ∧ ¬ (c : Int) ≤ 90) ∨ ¬ 65 ≤ (c : Int) := by omega
        rcases e1 with ⟨e1, e2⟩ | e1
        · go_wp2_with (at_builtin; refine wpList_append_own _ rfl (.tmp 24) (.tmp 26) 77 rfl w.heap.size 5 i0 (.int .u8 0) 1 1 Tryz.underlying77 hi hz0 hz1 hz2 rfl (by decide) _ _ _ rfl (hown.alloc _) ⟨wr.heap.size, 0, none⟩ 1 1 [.int .u8 (c : Int)] rfl rfl (cell_one_new _ _ _) (fun u hu => by simp at hu; subst hu; rfl) (by unfold maxLen; omega) (by omega) (by have := hb.size; simp; omega) ?_; intro v' w1 hown' hgrow _; have tok := hgrow)
          have hb1 := below_push hb hb.size hown hgrow
          have HO := Lib.hid (show w1.ownsRow w.heap.size 5 1 v' (k + 1) (u8s ((smallL s.data.toList).take (k + 1))) by rw [HS.out, HZ.out]; exact hown')
          clear hown' hgrow hown hb
          go_wp2
          go_roundw
          case rel => exact ⟨k + 1, by omega, by go_num, HO.out, hb1⟩
          case measure => simp [intOf]; omega
        · go_wp2_with (at_builtin; refine wpList_append_own _ rfl (.tmp 24) (.tmp 26) 77 rfl w.heap.size 5 i0 (.int .u8 0) 1 1 Tryz.underlying77 hi hz0 hz1 hz2 rfl (by decide) _ _ _ rfl (hown.alloc _) ⟨wr.heap.size, 0, none⟩ 1 1 [.int .u8 (c : Int)] rfl rfl (cell_one_new _ _ _) (fun u hu => by simp at hu; subst hu; rfl) (by unfold maxLen; omega) (by omega) (by have := hb.size; simp; omega) ?_; intro v' w1 hown' hgrow _; have tok := hgrow)
          have hb1 := below_push hb hb.size hown hgrow
          have HO := Lib.hid (show w1.ownsRow w.heap.size 5 1 v' (k + 1) (u8s ((smallL s.data.toList).take (k + 1))) by rw [HS.out, HZ.out]; exact hown')
          clear hown' hgrow hown hb
          go_wp2
          go_roundw
          case rel => exact ⟨k + 1, by omega, by go_num, HO.out, hb1⟩
          case measure => simp [intOf]; omega
    · obtain rfl : k = s.size := by omega
      have hd : decide (s.size < s.size) = false := by simp
      obtain ⟨A, cap, rfl, _, hR⟩ := own_slice hown
      rw [List.take_of_length_le (by simp [smallL])] at hR
      have hcv := Lib.BytesIn.convert (P := Tryz.prog) (bytesIn_of hR) (by simp [smallL]) cap 77 5 9 Tryz.underlying77 Tryz.underlying5 Tryz.underlying9
      rw [str_of_u8s] at hcv
      clear hR hown
      go_wp2_with fail
      go_ret
      exact ⟨rfl, hb⟩

def foundI (ps : List (Nat × List UInt8)) : Int := (ps.getLast?.map fun p => (p.1 : Int)).getD (-1)
/-- what find of the references answers: the index of the word, and the error -/
def findRR (ws : List (List UInt8)) (s : List UInt8) : Int × Int := if (wordF ws s).2 = true then (((wordF ws s).1 : Int), 0) else (0, 8)

set_option maxRecDepth 100000 in
set_option maxHeartbeats 1000000 in
theorem rfind_any (b cap : Nat) (ws : List (List UInt8)) (s : ByteArray) (w : World) (hc : ∀ j l, ws[j]? = some l → w.cell? ⟨b, j, none⟩ = some (.string ⟨l.toArray⟩)) (hb : b < w.heap.size) (hlen : ws.length ≤ 100) (hne : ∀ l ∈ ws, l ≠ [] ∧ l.length ≤ 100) (hs : s.size ≤ 1048576) :
    Calls Tryz.prog 66 #[.slice (some ⟨b, 0, none⟩) ws.length cap, .string s] w fun e w' => e = .returned (.tuple #[.int .i64 (findRR ws s.data.toList).1, .int .i64 (findRR ws s.data.toList).2]) ∧ Below w.heap.size w w' := by
  have HF := Lib.hid (show findRR ws s.data.toList = if (findP (begTo (smallL s.data.toList) ws ws.length) (smallL s.data.toList)).2 = true then (((findP (begTo (smallL s.data.toList) ws ws.length) (smallL s.data.toList)).1 : Int), 0) else (0, 8) from rfl)
  have HC := Lib.hid hc
  have HN := Lib.hid hne
  have htl : (smallL s.data.toList).length ≤ 1048576 := by simp [smallL]; omega
  clear hc hne
  go_enter Tryz.func66, Tryz.ntmps66
  go_wp2_with fail
  refine (rsmall_any s w hs).mono ?_
  rintro e w1 ⟨rfl, hb1⟩
  have HC1 := Lib.hid (show ∀ j l, ws[j]? = some l → w1.cell? ⟨b, j, none⟩ = some (.string ⟨l.toArray⟩) from fun j l hl => (hb1.cell (p := ⟨b, j, none⟩) hb).trans (HC.out j l hl))
  have HB1 := Lib.hid hb1
  clear hb1 HC
  generalize smallL s.data.toList = t at *
  go_wp2_with fail
  go_loop [6, 7, 8] (fun f n i => ∃ k : Nat, k ≤ ws.length ∧ i = .int .i64 k ∧ f = .int .i64 (foundI (begTo t ws k)) ∧ n = .int .i64 ((begTo t ws k).length : Int) ∧ ∀ p ∈ begTo t ws k, p.2 ≠ t) (fun _ _ i => ws.length - (intOf i).toNat)
  case atStart => exact ⟨0, Nat.zero_le _, rfl, rfl, rfl, by simp [begTo_zero]⟩
  case round =>
    obtain ⟨k, hk, rfl, rfl, rfl, hq⟩ := hrel
    have HQ := Lib.hid hq
    have hbl := begTo_len t ws k
    clear hq
    by_cases hlt : k < ws.length
    · obtain ⟨l, hl⟩ : ∃ l, ws[k]? = some l := ⟨_, List.getElem?_eq_getElem hlt⟩
      have c0 := HC1.out k l hl
      obtain ⟨hl0, hl100⟩ := HN.out l (List.mem_of_getElem? hl)
      have HL := Lib.hid hl
      have hd : decide (k < ws.length) = true := by simp [hlt]
      clear hl
      by_cases hlt2 : l = t
      · subst hlt2
        have hh : hits l (ws[k]?.getD []) = true := by
          rw [HL.out]
          simp [hits, Lib.hasPrefix, hl0]
        have hst := findP_stop (k := k + 1) hlt (begTo_hit hh) (by rw [HL.out]; rfl) HQ.out
        have HST := Lib.hid hst
        clear hh hst
        go_wp2_with fail
        go_ret2
        exact ⟨by rw [HF.out, HST.out]; rfl, HB1.out⟩
      · have hb2 : (l == t) = false := beq_eq_false_iff_ne.2 hlt2
        cases t with
        | nil =>
          have hh : hits [] (ws[k]?.getD []) = false := rfl
          have HM := Lib.hid (begTo_miss hh)
          clear hh
          go_wp2_with fail
          go_round
          case rel => exact ⟨k + 1, by omega, by go_num, by rw [HM.out], by rw [HM.out], by rw [HM.out]; exact HQ.out⟩
          case measure => simp [intOf]; omega
        | cons x xs =>
          have htl2 : xs.length + 1 ≤ 1048576 := by simpa using htl
          have hex : ((⟨l.toArray⟩ : ByteArray).extract 0 (xs.length + 1)).toList = l.take (xs.length + 1) := by
            rw [ByteArray.toList_eq]; simp
          by_cases hh : hits (x :: xs) (ws[k]?.getD []) = true
          · have hp : l.take (xs.length + 1) = x :: xs := by
              rw [HL.out] at hh
              simp only [hits, Option.getD_some, Bool.and_eq_true] at hh
              have := pre_take (l := l) (p := x :: xs)
              rw [hh.2] at this
              simpa using this
            have hlen2 : xs.length + 1 < l.length := by
              have h1 := congrArg List.length hp
              simp at h1
              apply Classical.byContradiction
              intro hn
              exact hlt2 (by rw [← hp, List.take_of_length_le (by omega)])
            have hx : (((⟨l.toArray⟩ : ByteArray).extract 0 (xs.length + 1)).toList == x :: xs) = true := by rw [hex, hp]; simp
            have HM := Lib.hid (begTo_hit hh)
            rw [HL.out] at HM
            have hd2 : decide (xs.length + 1 < l.length) = true := by simp [hlen2]
            clear hh hex hp
            go_wp2_with fail
            go_round
            case rel =>
              refine ⟨k + 1, by omega, by go_num, by rw [HM.out]; simp [foundI], by rw [HM.out]; simp, ?_⟩
              rw [HM.out]
              intro p hp
              rcases List.mem_append.1 hp with h | h
              · exact HQ.out p h
              · simp at h; subst h; exact hlt2
            case measure => simp [intOf]; omega
          · have HM := Lib.hid (begTo_miss (Bool.eq_false_iff.2 hh))
            by_cases hlen2 : xs.length + 1 < l.length
            · have hd2 : decide (xs.length + 1 < l.length) = true := by simp [hlen2]
              have hx : (((⟨l.toArray⟩ : ByteArray).extract 0 (xs.length + 1)).toList == x :: xs) = false := by
                rw [hex]
                have := pre_take (l := l) (p := x :: xs)
                rw [show l.take (xs.length + 1) = l.take (x :: xs).length from rfl, this]
                rw [HL.out] at hh
                simpa [hits] using hh
              clear hh hex
              go_wp2_with fail
              go_round
              case rel => exact ⟨k + 1, by omega, by go_num, by rw [HM.out], by rw [HM.out], by rw [HM.out]; exact HQ.out⟩
              case measure => simp [intOf]; omega
            · have hd2 : decide (xs.length + 1 < l.length) = false := by simp [hlen2]
              clear hh hex
              go_wp2_with fail
              go_round
              case rel => exact ⟨k + 1, by omega, by go_num, by rw [HM.out], by rw [HM.out], by rw [HM.out]; exact HQ.out⟩
              case measure => simp [intOf]; omega
    · have hd : decide (k < ws.length) = false := by simp [hlt]
      obtain rfl : k = ws.length := by omega
      have HP := Lib.hid (findP_none HQ.out)
      by_cases h1 : (begTo t ws ws.length).length = 1
      · have h1b : (((begTo t ws ws.length).length : Int) != 1) = false := by rw [h1]; rfl
        go_wp2_with fail
        go_ret2
        refine ⟨?_, HB1.out⟩
        rw [HF.out, HP.out]
        obtain ⟨p, hp⟩ := List.length_eq_one_iff.1 h1
        rw [hp]
        rfl
      · have h1b : (((begTo t ws ws.length).length : Int) != 1) = true := by rw [bne_iff_ne]; omega
        go_wp2_with fail
        go_ret2
        refine ⟨?_, HB1.out⟩
        rw [HF.out, HP.out]
        simp only
        rw [if_neg (by simpa using h1)]
        rfl

def weeksO : Obj := .cells #[.string ⟨#[115, 117, 110, 100, 97, 121]⟩, .string ⟨#[109, 111, 110, 100, 97, 121]⟩, .string ⟨#[116, 117, 101, 115, 100, 97, 121]⟩, .string ⟨#[119, 101, 100, 110, 101, 115, 100, 97, 121]⟩, .string ⟨#[116, 104, 117, 114, 115, 100, 97, 121]⟩, .string ⟨#[102, 114, 105, 100, 97, 121]⟩, .string ⟨#[115, 97, 116, 117, 114, 100, 97, 121]⟩] 9
set_option maxHeartbeats 400000 in
theorem rweeks_any (w : World) : Calls Tryz.prog 113 #[] w fun e w' => e = .returned (.slice (some ⟨w.heap.size, 0, none⟩) 7 7) ∧ w' = w.alloc weeksO := by
  go_enter Tryz.func113, Tryz.ntmps113
  go_wp2
  go_ret
  exact ⟨rfl, rfl⟩
theorem weeksO_cell (w : World) (j : Nat) (l : List UInt8) (hl : weekL[j]? = some l) : (w.alloc weeksO).cell? ⟨w.heap.size, j, none⟩ = some (.string ⟨l.toArray⟩) := by
  have b : Blk (w.alloc weeksO) w.heap.size 9 #[.string ⟨#[115, 117, 110, 100, 97, 121]⟩, .string ⟨#[109, 111, 110, 100, 97, 121]⟩, .string ⟨#[116, 117, 101, 115, 100, 97, 121]⟩, .string ⟨#[119, 101, 100, 110, 101, 115, 100, 97, 121]⟩, .string ⟨#[116, 104, 117, 114, 115, 100, 97, 121]⟩, .string ⟨#[102, 114, 105, 100, 97, 121]⟩, .string ⟨#[115, 97, 116, 117, 114, 100, 97, 121]⟩] := Blk.new' w _ _ rfl
  have hlt : j < 7 := (List.getElem?_eq_some_iff.1 hl).1
  rcases (by omega : j = 0 ∨ j = 1 ∨ j = 2 ∨ j = 3 ∨ j = 4 ∨ j = 5 ∨ j = 6) with rfl | rfl | rfl | rfl | rfl | rfl | rfl
  all_goals (cases hl; exact b.cell_ rfl)

set_option maxHeartbeats 400000 in
theorem rweek_any (s : ByteArray) (w : World) (hs : s.size ≤ 1048576) :
    Calls Tryz.prog 70 #[.string s] w fun e w' => e = .returned (.tuple #[.int .i64 (weekR s.data.toList).1, .int .i64 (weekR s.data.toList).2]) ∧ Below w.heap.size w w' := by
  have HF := Lib.hid (rfind_any w.heap.size 7 weekL s (w.alloc weeksO) (weeksO_cell w) (by simp) (by decide) (by decide) hs)
  go_enter Tryz.func70, Tryz.ntmps70
  go_wp2_with fail
  refine (rweeks_any w).mono ?_
  rintro e w1 ⟨rfl, rfl⟩
  go_wp2_with fail
  refine HF.out.mono ?_
  rintro e w1 ⟨rfl, hb⟩
  have HB := Lib.hid (((Below.refl _ w).alloc (Nat.le_refl _) weeksO).trans (hb.mono (by simp)))
  clear hb
  go_wp2_with fail
  go_ret2
  exact ⟨rfl, HB.out⟩

theorem upper_str (a : UInt8) (ha : 97 ≤ a.toNat ∧ a.toNat ≤ 122) : strOfNums [(a.toNat : Int) - 97 + 65] = ⟨#[Lib.upperB a]⟩ := by
  have h : ∀ n : Fin 26, Lib.upperB (UInt8.ofNat (97 + n.val)) = UInt8.ofNat (65 + n.val) := by decide
  have h1 := h ⟨a.toNat - 97, by omega⟩
  simp only at h1
  rw [show 97 + (a.toNat - 97) = a.toNat by omega, show UInt8.ofNat a.toNat = a by simp] at h1
  rw [h1]
  simp only [strOfNums, List.map_cons, List.map_nil]
  rw [show ((a.toNat : Int) - 97 + 65).toNat = 65 + (a.toNat - 97) by omega]
theorem conv_one (W : World) (x : Int) (s : ByteArray) (hs : strOfNums [x] = s) :
    (convert 77 9 (.slice (some ⟨W.heap.size, 0, none⟩) 1 1)).run Tryz.prog (W.alloc (.cells #[.int .u8 x] 5)) = .ok (.string s) (W.alloc (.cells #[.int .u8 x] 5)) := by
  have hin : Lib.BytesIn (W.alloc (.cells #[.int .u8 x] 5)) (some ⟨W.heap.size, 0, none⟩) 1 [x] := Lib.BytesIn.of_cells fun i hi => by
    obtain rfl : i = 0 := by omega
    simp [Addr.add, World.cell?_alloc_new]
  rw [← hs]
  exact Lib.BytesIn.convert (P := Tryz.prog) hin rfl 1 77 5 9 Tryz.underlying77 Tryz.underlying5 Tryz.underlying9
theorem conv_one_drew (W : World) (x : Int) (s : ByteArray) (hs : strOfNums [x] = s) :
    (convert 77 9 (.slice (some ⟨W.heap.size, 0, none⟩) 1 1)).run Tryz.prog (W.alloc (.cells #[.int .u8 x] 5)).drew = .ok (.string s) (W.alloc (.cells #[.int .u8 x] 5)).drew := by
  have hin : Lib.BytesIn (W.alloc (.cells #[.int .u8 x] 5)).drew (some ⟨W.heap.size, 0, none⟩) 1 [x] := Lib.BytesIn.of_cells fun i hi => by
    obtain rfl : i = 0 := by omega
    simp [Addr.add, World.cell?_alloc_new]
  rw [← hs]
  exact Lib.BytesIn.convert (P := Tryz.prog) hin rfl 1 77 5 9 Tryz.underlying77 Tryz.underlying5 Tryz.underlying9

set_option maxRecDepth 100000 in
set_option maxHeartbeats 400000 in
theorem rshort_any (a b c : UInt8) (l : List UInt8) (ha : 97 ≤ a.toNat ∧ a.toNat ≤ 122) (hl : l.length < 100) (w : World) :
    Calls Tryz.prog 94 #[.string ⟨(a :: b :: c :: l).toArray⟩] w fun e w' => e = .returned (.string ⟨#[Lib.upperB a, b, c]⟩) ∧ Below w.heap.size w w' := by
  obtain ⟨s, hs⟩ : ∃ s : ByteArray, s = ⟨(a :: b :: c :: l).toArray⟩ := ⟨_, rfl⟩
  have hsz : s.size = l.length + 3 := by rw [hs]; show (a :: b :: c :: l).length = _; simp
  have h13 : s.extract 1 3 = ⟨#[b, c]⟩ := by rw [hs]; apply ByteArray.ext; simp [ByteArray.data_extract]
  have g0 : ∀ h, ((s[0]'h).toNat) = a.toNat := by subst hs; intro h; rfl
  rw [← hs]
  have z0 : (0 : Int) < (s.size : Int) := by omega
  have z3 : (3 : Int) ≤ (s.size : Int) := by omega
  have h63 : ¬ (9223372036854775807 < 1 + (min 3 s.size - 1)) := by omega
  have x1 : IntKind.u8.wrap ((a.toNat : Int) - 97) = (a.toNat : Int) - 97 := by rw [IntKind.wrap_u8]; omega
  have x2 : IntKind.u8.wrap ((a.toNat : Int) - 97 + 65) = (a.toNat : Int) - 97 + 65 := by rw [IntKind.wrap_u8]; omega
  have hcv : ∀ W : World, (convert 77 9 (.slice (some ⟨W.heap.size, 0, none⟩) 1 1)).run Tryz.prog (W.alloc (.cells #[.int .u8 ((a.toNat : Int) - 97 + 65)] 5)) = .ok (.string ⟨#[Lib.upperB a]⟩) (W.alloc (.cells #[.int .u8 ((a.toNat : Int) - 97 + 65)] 5)) := fun W => conv_one W _ _ (upper_str a ha)
  have hcv2 : ∀ W : World, (convert 77 9 (.slice (some ⟨W.heap.size, 0, none⟩) 1 1)).run Tryz.prog (W.alloc (.cells #[.int .u8 ((a.toNat : Int) - 97 + 65)] 5)).drew = .ok (.string ⟨#[Lib.upperB a]⟩) (W.alloc (.cells #[.int .u8 ((a.toNat : Int) - 97 + 65)] 5)).drew := fun W => conv_one_drew W _ _ (upper_str a ha)
  have HS := Lib.hid hsz
  have H13 := Lib.hid h13
  clear hs hsz h13
  go_enter Tryz.func94, Tryz.ntmps94
  go_wp2_with fail
  go_region_with (fail)
  all_goals
    go_wp2_with fail
    go_ret
    exact ⟨by rw [H13.out]; rfl, by go_grown⟩

theorem weekL_low (i : Nat) (hi : i < 7) : ∃ a b c l, weekL[i]? = some (a :: b :: c :: l) ∧ (97 ≤ a.toNat ∧ a.toNat ≤ 122) ∧ l.length < 100 ∧ weekT (i : Int) = [Lib.upperB a, b, c] := by
  rcases (by omega : i = 0 ∨ i = 1 ∨ i = 2 ∨ i = 3 ∨ i = 4 ∨ i = 5 ∨ i = 6) with rfl | rfl | rfl | rfl | rfl | rfl | rfl
  all_goals exact ⟨_, _, _, _, rfl, by decide, by decide, by decide⟩

set_option maxHeartbeats 400000 in
theorem rweekText_any (i : Int) (w : World) :
    Calls Tryz.prog 89 #[.int .i64 i] w fun e w' => e = .returned (.string ⟨(weekT i).toArray⟩) ∧ Below w.heap.size w w' := by
  by_cases hi : 0 ≤ i ∧ i < 7
  · obtain ⟨n, rfl⟩ := Int.eq_ofNat_of_zero_le hi.1
    obtain ⟨a, b, c, l, hl, ha, hn, ht⟩ := weekL_low n (by omega)
    have hc := weeksO_cell w n _ hl
    have HT := Lib.hid ht
    have i0 : (0 : Int) ≤ (n : Int) := by omega
    have i6 : (n : Int) < 7 := by omega
    have i7 : ¬ (6 < (n : Int)) := by omega
    clear hi hl ht
    go_enter Tryz.func89, Tryz.ntmps89
    go_wp2_with fail
    refine (rweeks_any w).mono ?_
    rintro e w1 ⟨rfl, rfl⟩
    generalize hW : w.alloc weeksO = W at *
    have HB := Lib.hid (show Below w.heap.size w W by rw [← hW]; exact (Below.refl _ w).alloc (Nat.le_refl _) _)
    clear hW
    go_wp2_with fail
    refine (rshort_any a b c l ha hn _).mono ?_
    rintro e w1 ⟨rfl, hb⟩
    go_wp2_with fail
    go_ret
    exact ⟨by rw [HT.out]; rfl, HB.out.trans (hb.mono HB.out.size)⟩
  · have HT := Lib.hid (show weekT i = [] from if_neg hi)
    by_cases h0 : i < 0
    · clear hi
      go_enter Tryz.func89, Tryz.ntmps89
      go_wp2_with fail
      go_ret
      exact ⟨by rw [HT.out]; rfl, Below.refl _ _⟩
    · have h6 : 6 < i := by omega
      clear hi
      go_enter Tryz.func89, Tryz.ntmps89
      go_wp2_with fail
      go_ret
      exact ⟨by rw [HT.out]; rfl, Below.refl _ _⟩
end Go.Proofs.YtgfnnmdngckmmaaGreatDoor
