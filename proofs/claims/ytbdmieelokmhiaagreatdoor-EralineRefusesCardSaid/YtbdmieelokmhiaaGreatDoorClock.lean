/-
  clock.letters, clock.cut, clock.Parse, clock.Check, clock.Print: what each call returns.
-/
import Derived.Test.YtbdmieelokmhiaaGreatDoorOffWalk
import Derived.Test.YtbdmieelokmhiaaGreatDoorStrAny
import Derived.Handy
import Derived.Outline
set_option linter.unusedVariables false
namespace Go.Proofs.YtbdmieelokmhiaaGreatDoor
open Go.RowKit

def lettersO : Obj := .cells #[.int .i32 119, .int .i64 0, .int .i32 115, .int .i64 1, .int .i32 117, .int .i64 2, .int .i32 103, .int .i64 2, .int .i32 122, .int .i64 2] 170
set_option maxHeartbeats 400000 in
theorem letters_any (w : World) : Calls Tryz.prog 145 #[] w fun e w' => e = .returned (.slice (some ⟨w.heap.size, 0, none⟩) 5 5) ∧ w.alloc lettersO = w' := by
  go_enter Tryz.func145, Tryz.ntmps145
  go_wp2
  go_ret
  exact ⟨rfl, rfl⟩

/-- the base of a letter -/
def baseOf (c : Nat) : Option Int := if c = 119 then some 0 else if c = 115 then some 1 else if c = 117 ∨ c = 103 ∨ c = 122 then some 2 else none
/-- what stands in front of the letter, and the base -/
def cutR (l : List UInt8) : List UInt8 × Int := match (l.getLast?.bind fun c => baseOf c.toNat) with
  | some b => (l.dropLast, b)
  | none => (l, 0)
/-- what the first loop has found: the place and the code point of the last sign -/
def LastIs (s : ByteArray) (p at_ r : Nat) : Prop := (p = 0 ∧ at_ = 0 ∧ r = 0) ∨ (at_ < p ∧ p ≤ s.size ∧ ((r < 128 ∧ p = at_ + 1 ∧ (s.get! at_).toNat = r) ∨ (128 ≤ r ∧ 128 ≤ (s.get! (p - 1)).toNat)))
theorem last_step' (s : ByteArray) (pos r n : Nat) (hp : pos < s.size) (hD : Utf8.decode s pos = (r, n)) : LastIs s (pos + n) pos r := by
  have hn1 : 1 ≤ n := by have := width_one s pos; rw [hD] at this; exact this
  have e : s[pos]'hp = s.get! pos := (get_at s pos hp).symm
  by_cases h : (s.get! pos).toNat < 128
  · have hd := decode_ascii s pos hp (by rw [e]; exact h)
    rw [hD, e] at hd
    obtain ⟨rfl, rfl⟩ := Prod.mk.inj hd
    exact .inr ⟨by omega, by omega, .inl ⟨h, rfl, rfl⟩⟩
  · have hi : 128 ≤ (s.get! pos).toNat := by omega
    have h1 := (decode_high s pos hp (by rw [e]; exact hi)).1
    have h2 := dec_wide s pos hp hi
    rw [hD] at h1 h2
    simp only at h1 h2
    refine .inr ⟨by omega, h2.1, .inr ⟨h1, ?_⟩⟩
    have := h2.2 (n - 1) (by omega)
    rwa [show pos + (n - 1) = pos + n - 1 by omega] at this
theorem get_last (s : ByteArray) (h : 0 < s.size) : s.data.toList.getLast? = some (s.get! (s.size - 1)) := by
  rw [List.getLast?_eq_getElem?]
  have := get_list s (s.size - 1) (by omega)
  simpa using this
theorem cut_none {s : ByteArray} {at_ r : Nat} (h : LastIs s s.size at_ r) (hr : baseOf r = none) : cutR s.data.toList = (s.data.toList, 0) := by
  unfold cutR
  rcases Nat.eq_zero_or_pos s.size with h0 | h0
  · obtain rfl := empty_of h0; rfl
  · rw [get_last s h0]
    rcases h with ⟨h1, _, _⟩ | ⟨h1, h2, ⟨h3, h4, h5⟩ | ⟨h3, h4⟩⟩
    · omega
    · rw [show s.size - 1 = at_ by omega]
      simp only [Option.bind_some, h5, hr]
    · have : baseOf (s.get! (s.size - 1)).toNat = none := by unfold baseOf; rw [if_neg (by omega), if_neg (by omega), if_neg (by omega)]
      simp only [Option.bind_some, this]
theorem base_lt {r : Nat} {b : Int} (h : baseOf r = some b) : r < 128 ∧ r ≠ 0 ∧ 0 ≤ b ∧ b ≤ 2 := by
  unfold baseOf at h
  split at h
  · cases h; omega
  · split at h
    · cases h; omega
    · split at h
      · cases h; omega
      · cases h
theorem cut_some {s : ByteArray} {at_ r : Nat} {b : Int} (h : LastIs s s.size at_ r) (hr : baseOf r = some b) : cutR s.data.toList = ((s.extract 0 at_).data.toList, b) ∧ at_ < s.size := by
  have hl := base_lt hr
  rcases h with ⟨h1, _, _⟩ | ⟨h1, h2, ⟨h3, h4, h5⟩ | ⟨h3, h4⟩⟩
  · omega
  · refine ⟨?_, h1⟩
    unfold cutR
    rw [get_last s (by omega), show s.size - 1 = at_ by omega, list_upto]
    simp only [Option.bind_some, h5, hr]
    rw [List.dropLast_eq_take]
    simp only [Array.length_toList]
    rw [show s.data.size = s.size from rfl, show s.size - 1 = at_ by omega]
  · omega

def letN (k : Nat) : Nat := [119, 115, 117, 103, 122].getD k 0
def baseN (k : Nat) : Int := [0, 1, 2, 2, 2].getD k 0
def LettersAt (w : World) (g : Nat) : Prop := Blk w g 170 #[.int .i32 119, .int .i64 0, .int .i32 115, .int .i64 1, .int .i32 117, .int .i64 2, .int .i32 103, .int .i64 2, .int .i32 122, .int .i64 2]
theorem LettersAt.at_ {w : World} {g : Nat} (h : LettersAt w g) (k : Nat) (hk : k < 5) : w.cell? ⟨g, k * 2, none⟩ = some (.int .i32 (letN k : Int)) ∧ w.cell? ⟨g, k * 2 + 1, none⟩ = some (.int .i64 (baseN k)) := by
  rcases (by omega : k = 0 ∨ k = 1 ∨ k = 2 ∨ k = 3 ∨ k = 4) with rfl | rfl | rfl | rfl | rfl
  all_goals exact ⟨Blk.cell_ h rfl, Blk.cell_ h rfl⟩
theorem LettersAt.lt {w : World} {g : Nat} (h : LettersAt w g) : g < w.heap.size := Blk.lt h
theorem LettersAt.alloc {w : World} {g : Nat} (h : LettersAt w g) (o : Obj) : LettersAt (w.alloc o) g := Blk.alloc h o
theorem letN_base (k : Nat) (hk : k < 5) : baseOf (letN k) = some (baseN k) := by
  rcases (by omega : k = 0 ∨ k = 1 ∨ k = 2 ∨ k = 3 ∨ k = 4) with rfl | rfl | rfl | rfl | rfl
  all_goals rfl
theorem letN_none {r : Nat} (h : ∀ j, j < 5 → letN j ≠ r) : baseOf r = none := by
  have h0 : 119 ≠ r := h 0 (by decide)
  have h1 : 115 ≠ r := h 1 (by decide)
  have h2 : 117 ≠ r := h 2 (by decide)
  have h3 : 103 ≠ r := h 3 (by decide)
  have h4 : 122 ≠ r := h 4 (by decide)
  unfold baseOf
  rw [if_neg (by omega), if_neg (by omega), if_neg (by omega)]
set_option maxRecDepth 100000 in
set_option maxHeartbeats 2000000 in
theorem cut_any (s : ByteArray) (w : World) (hs : s.size ≤ 1048576) :
    Calls Tryz.prog 103 #[.string s] w fun e w' => e = .returned (.tuple #[.string ⟨(cutR s.data.toList).1.toArray⟩, .int .i64 (cutR s.data.toList).2]) ∧ Below w.heap.size w w' := by
  go_enter Tryz.func103, Tryz.ntmps103
  go_wp2_with fail
  go_loopw [4, 5] (fun i c wr => ∃ pos at_ r : Nat, i = .int .i64 (at_ : Int) ∧ c = .int .i32 (r : Int) ∧ wr.heap[w.heap.size]? = some (.stringIter s pos) ∧ Below w.heap.size w wr ∧ pos ≤ s.size ∧ Aside (LastIs s pos at_ r)) (fun _ _ wr => s.size - wr.iterPos w.heap.size)
  case atStart => exact ⟨0, 0, 0, rfl, rfl, World.iter_heap w s 0, (Below.refl _ _).alloc (Nat.le_refl _) _, Nat.zero_le _, .inl ⟨rfl, rfl, rfl⟩⟩
  case round =>
    obtain ⟨pos, at_, rr, rfl, rfl, hit, hbw, hle, HN⟩ := hrel
    have hpos0 := Lib.hid (iterPos_of hit)
    by_cases hp : pos < s.size
    · have hnx : ∀ ty, (Instr.next (.pointer (some ⟨w.heap.size, 0, none⟩)) true ty).run Tryz.prog wr = _ := fun ty => Lib.run_next_any_at wr w.heap.size s pos ty hit hp
      obtain ⟨r, n, hD⟩ : ∃ r n, Utf8.decode s pos = (r, n) := ⟨_, _, rfl⟩
      have hn1 : 1 ≤ n := by have := width_one s pos; rw [hD] at this; exact this
      rw [hD] at hnx
      have HL := Lib.hid (last_step' s pos r n hp hD)
      have hit2 := Lib.iterAt_heap wr w.heap.size s pos (pos + n) hit
      have hbw2 := Lib.below_iterAt hbw (k := w.heap.size) (Nat.le_refl _) s (pos + n)
      obtain ⟨W1, hW1⟩ : ∃ W1, W1 = wr.iterAt w.heap.size s (pos + n) := ⟨_, rfl⟩
      simp only [← hW1] at hnx hit2 hbw2
      have HK := Lib.hid (And.intro hit2 hbw2)
      clear hW1 hit hbw hit2 hbw2 hD
      go_wp2_with fail
      go_roundw
      case rel =>
        refine ⟨pos + n, pos, r, rfl, rfl, HK.out.1, HK.out.2, ?_, HL.out⟩
        rcases HL.out with h | h <;> omega
      case measure => rw [iterPos_of HK.out.1, hpos0.out]; omega
    · have hnx : ∀ ty, (Instr.next (.pointer (some ⟨w.heap.size, 0, none⟩)) true ty).run Tryz.prog wr = _ := fun ty => Lib.run_next_end_at wr w.heap.size s pos ty hit hp
      obtain rfl : pos = s.size := by omega
      have HB := Lib.hid hbw
      have HL := Lib.hid HN.out
      clear hbw HN hit hpos0
      go_wp2_with fail
      refine (letters_any _).mono ?_
      rintro e w1 ⟨rfl, h1⟩
      have hL : Blk w1 wr.heap.size 170 #[.int .i32 119, .int .i64 0, .int .i32 115, .int .i64 1, .int .i32 117, .int .i64 2, .int .i32 103, .int .i64 2, .int .i32 122, .int .i64 2] := h1 ▸ Blk.new' _ _ _ rfl
      have HB1 := Lib.hid (show Below w.heap.size w w1 from h1 ▸ HB.out.alloc HB.out.size _)
      have hz := hL.lt
      generalize wr.heap.size = gL at *
      have HLt := Lib.hid hL
      clear h1 hL HB hnx
      obtain ⟨W1, hW1⟩ : ∃ W1, W1 = wr := ⟨_, rfl⟩
      subst hW1
      go_wp2_with fail
      go_loopw [20] (fun i wr => ∃ k : Nat, k ≤ 5 ∧ i = .int .i64 (k : Int) ∧ LettersAt wr gL ∧ Below w.heap.size w wr ∧ Aside (∀ j, j < k → letN j ≠ rr)) (fun i _ => 5 - (intOf i).toNat)
      case atStart => exact ⟨0, by omega, rfl, HLt.out, HB1.out, fun j hj => absurd hj (by omega)⟩
      case round =>
        obtain ⟨k, hk, rfl, hL, hb, hno⟩ := hrel
        have HNo := Lib.hid hno.out
        clear hno HLt HB1
        by_cases hlt : k < 5
        · obtain ⟨c0, c1⟩ := hL.at_ k hlt
          have hz1 := hL.lt
          have k0 : (0 : Int) ≤ (k : Int) := by omega
          have k5 : (k : Int) < 5 := by omega
          have HLt := Lib.hid hL
          have HB1 := Lib.hid hb
          clear hL hb
          by_cases hr : letN k = rr
          · obtain ⟨HC, hat⟩ := cut_some HL.out (show baseOf rr = some (baseN k) by rw [← hr]; exact letN_base k hlt)
            have HC := Lib.hid HC
            have hat1 : (at_ : Int) ≤ (s.size : Int) := by omega
            have hat0 : (0 : Int) ≤ (at_ : Int) := by omega
            rw [hr] at c0
            clear HL hr HNo
            go_wp2_with fail
            go_quiet (fail)
            go_wp2_with fail
            go_ret2
            refine ⟨by rw [HC.out]; rfl, below_drawn ?_ _⟩
            exact HB1.out.alloc HB1.out.size _
          · have hrb : ((letN k : Int) == (rr : Int)) = false := beq_eq_false_iff_ne.2 (by omega)
            have HR := Lib.hid hr
            obtain ⟨lk, hlk⟩ : ∃ lk, letN k = lk := ⟨_, rfl⟩
            rw [hlk] at c0 hrb
            clear hr hlk
            go_wp2_with fail
            go_roundw
            case rel =>
              refine ⟨k + 1, by omega, by go_num, HLt.out.alloc _, HB1.out.alloc HB1.out.size _, fun j hj => ?_⟩
              rcases Nat.lt_or_ge j k with h | h
              · exact HNo.out j h
              · obtain rfl : j = k := by omega
                exact HR.out
            case measure => simp [intOf]; omega
        · obtain rfl : k = 5 := by omega
          have HC := Lib.hid (cut_none HL.out (letN_none HNo.out))
          have HB1 := Lib.hid hb
          clear hL hb HL HNo
          go_wp2_with fail
          go_ret2
          exact ⟨by rw [HC.out]; rfl, HB1.out⟩

/-- the time of day of a string, and the error -/
def clockR (l : List UInt8) : (Int × Int) × Int := if (offParseR (cutR l).1).2 = 0 then (((offParseR (cutR l).1).1, (cutR l).2), 0) else ((0, 0), (offParseR (cutR l).1).2)
theorem endR_err (mn : Bool) (o : Option Nat) : (endR mn o).2 = 0 ∨ (endR mn o).2 = 5 ∨ (endR mn o).2 = 3 := by
  cases o with
  | none => exact .inr (.inl rfl)
  | some x =>
    simp only [endR]
    split
    · exact .inr (.inl rfl)
    · split
      · exact .inr (.inr rfl)
      · exact .inl rfl
theorem offErr (l : List UInt8) : (offParseR l).2 = 0 ∨ (offParseR l).2 = 5 ∨ (offParseR l).2 = 3 := by
  have := endR_of ⟨l.toArray⟩ _ rfl
  have e : (⟨l.toArray⟩ : ByteArray).data.toList = l := rfl
  rw [e] at this
  rw [this]
  exact endR_err _ _
theorem cut_len (l : List UInt8) : (cutR l).1.length ≤ l.length := by
  unfold cutR
  split
  · simp
  · exact Nat.le_refl _
set_option maxRecDepth 100000 in
set_option maxHeartbeats 1000000 in
theorem clockParse_any (s : ByteArray) (w : World) (hs : s.size ≤ 1048576) (hU : Units w) (hE : ErrSyn w) :
    Calls Tryz.prog 57 #[.string s] w fun e w' => e = .returned (.tuple #[.agg #[.int .i64 (clockR s.data.toList).1.1, .int .i64 (clockR s.data.toList).1.2], .int .i64 (clockR s.data.toList).2]) ∧ Below w.heap.size w w' := by
  have hB0 : Below w.heap.size w (w.alloc (.cells #[.int .i64 0, .int .i64 0] 27)) := (Below.refl _ _).alloc (Nat.le_refl _) _
  have HR := Lib.hid (show clockR s.data.toList = if (offParseR (cutR s.data.toList).1).2 = 0 then (((offParseR (cutR s.data.toList).1).1, (cutR s.data.toList).2), 0) else ((0, 0), (offParseR (cutR s.data.toList).1).2) from rfl)
  have hl := cut_len s.data.toList
  have HC := Lib.hid (cut_any s (w.alloc (.cells #[.int .i64 0, .int .i64 0] 27)) hs)
  generalize cutR s.data.toList = c at *
  obtain ⟨f, b⟩ := c
  have hf : (⟨f.toArray⟩ : ByteArray).size ≤ 1048576 := by
    have h1 : f.length ≤ s.data.toList.length := hl
    have h2 : s.data.toList.length = s.size := by simp
    show f.length ≤ _
    omega
  have HO := Lib.hid (fun W (hW : Below w.heap.size w W) => offParse_any ⟨f.toArray⟩ W hf (hU.below hW) (hE.below hW))
  have e : (⟨f.toArray⟩ : ByteArray).data.toList = f := rfl
  rw [e] at HO
  have he := offErr f
  have HR : Hid (clockR s.data.toList = if (offParseR f).2 = 0 then (((offParseR f).1, b), 0) else ((0, 0), (offParseR f).2)) := HR
  generalize offParseR f = o at *
  obtain ⟨x, er⟩ := o
  have he : er = 0 ∨ er = 5 ∨ er = 3 := he
  clear hU hE hl hf e
  go_enter Tryz.func57, Tryz.ntmps57
  go_wp2_with fail
  refine HC.out.mono ?_
  rintro e w1 ⟨rfl, hb1⟩
  have b0 : Blk w1 w.heap.size 27 #[.int .i64 0, .int .i64 0] := (Blk.new' _ _ _ rfl).below hb1 (by simp)
  have hb1' := hB0.trans (hb1.mono (by simp))
  have HB1 := Lib.hid (And.intro b0 hb1')
  clear b0 hb1 hb1' HC hB0
  go_wp2_with fail
  refine (HO.out _ HB1.out.2).mono ?_
  rintro e w2 ⟨rfl, hb2⟩
  have b0 := HB1.out.1.below hb2 HB1.out.1.lt
  have HB2 := Lib.hid (And.intro b0 (HB1.out.2.trans (hb2.mono HB1.out.2.size)))
  have c0 : w2.cell? ⟨w.heap.size, 0, none⟩ = some (.int .i64 0) := b0.cell_ rfl
  have c1 : w2.cell? ⟨w.heap.size, 1, none⟩ = some (.int .i64 0) := b0.cell_ rfl
  have f0 := b0.frozen 0
  have f1 := b0.frozen 1
  clear b0 hb2 HB1 HO
  rcases he with rfl | rfl | rfl
  all_goals
    go_wp2_with fail
    refine bodyPost_ret (by simp [results, Tryz.results57, go_sem, c0, c1]; rfl) rfl ⟨?_, ?_⟩
    · rw [HR.out]; rfl
    · have hBv := HB2.out.2; go_grown

def clockOk (x b : Int) : Bool := decide (-604799 ≤ x ∧ x ≤ 604799) && decide (0 ≤ b ∧ b ≤ 2)
set_option maxHeartbeats 1000000 in
theorem clockCheck_any (x b : Int) (w : World) :
    Calls Tryz.prog 117 #[.agg #[.int .i64 x, .int .i64 b]] w fun e w' => e = .returned (.int .i64 (if clockOk x b = true then 0 else 2)) ∧ Below w.heap.size w w' := by
  by_cases h : clockOk x b = true
  · rw [if_pos h]
    simp only [clockOk, Bool.and_eq_true, decide_eq_true_eq] at h
    obtain ⟨⟨h1, h2⟩, h3, h4⟩ := h
    go_enter Tryz.func117, Tryz.ntmps117
    go_wp2
    go_ret
    exact ⟨rfl, by go_grown⟩
  · rw [if_neg h]
    simp only [clockOk, Bool.and_eq_true, decide_eq_true_eq] at h
    rcases (by omega : x < -604799 ∨ (¬ x < -604799 ∧ 604799 < x) ∨ ((¬ x < -604799 ∧ ¬ 604799 < x) ∧ b < 0) ∨ ((¬ x < -604799 ∧ ¬ 604799 < x) ∧ ¬ b < 0 ∧ 2 < b)) with h1 | ⟨h1, h2⟩ | ⟨⟨h1, h2⟩, h3⟩ | ⟨⟨h1, h2⟩, h3, h4⟩
    all_goals
      clear h
      go_enter Tryz.func117, Tryz.ntmps117
      go_wp2
      go_ret
      exact ⟨rfl, by go_grown⟩
theorem conv_join (ot : List UInt8) (c : UInt8) : Ending.returned (.tuple #[.string (⟨ot.toArray⟩ ++ ⟨#[c]⟩), .int .i64 0]) = .returned (.tuple #[.string ⟨(ot ++ [c]).toArray⟩, .int .i64 0]) := by
  rw [ba_append]; simp
/-- the string of a time of day, and the error -/
def clockT (x b : Int) : List UInt8 := (if x < 0 then [45] else []) ++ offT x.natAbs ++ (if b = 1 then [115] else if b = 2 then [117] else [])
def clockPrintR (x b : Int) : List UInt8 × Int := if clockOk x b = true then (clockT x b, 0) else ([], 2)
theorem twoT_len' (n : Nat) (h : n < 60) : (twoT n).length = 2 := by
  have h' : ∀ n : Fin 60, (twoT n.val).length = 2 := by decide +kernel
  exact h' ⟨n, h⟩
theorem offT_len (n : Nat) (h : n ≤ 604799) : (offT n).length ≤ 9 := by
  have h1 := dig_len (n / 3600) (by omega)
  have h2 := twoT_len' (n / 60 % 60) (by omega)
  have h3 := twoT_len' (n % 60) (by omega)
  unfold offT
  split <;> simp <;> omega
theorem offPrint_ok (x : Int) (h0 : -604799 ≤ x) (h1 : x ≤ 604799) : offPrintR x = ((if x < 0 then [45] else []) ++ offT x.natAbs, 0) := if_neg (by omega)

set_option maxRecDepth 100000 in
set_option maxHeartbeats 2000000 in
theorem clockPrint_any (x b : Int) (w : World) (hP : Pows w) :
    Calls Tryz.prog 120 #[.agg #[.int .i64 x, .int .i64 b]] w fun e w' => e = .returned (.tuple #[.string ⟨(clockPrintR x b).1.toArray⟩, .int .i64 (clockPrintR x b).2]) ∧ Below w.heap.size w w' := by
  have hB0 : Below w.heap.size w (w.alloc (.cells #[.int .i64 x, .int .i64 b] 27)) := (Below.refl _ _).alloc (Nat.le_refl _) _
  have HC := Lib.hid (clockCheck_any x b (w.alloc (.cells #[.int .i64 x, .int .i64 b] 27)))
  by_cases h : clockOk x b = true
  · rw [if_pos h] at HC
    have HR := Lib.hid (show clockPrintR x b = (clockT x b, 0) from if_pos h)
    simp only [clockOk, Bool.and_eq_true, decide_eq_true_eq] at h
    obtain ⟨⟨h1, h2⟩, h3, h4⟩ := h
    have HO := Lib.hid (fun W (hW : Below w.heap.size w W) => offPrint_any x W (hP.below hW))
    simp only [offPrint_ok x h1 h2] at HO
    have hol := offT_len x.natAbs (by omega)
    have HT := Lib.hid (show clockT x b = ((if x < 0 then [45] else []) ++ offT x.natAbs) ++ (if b = 1 then [115] else if b = 2 then [117] else []) from rfl)
    have hol2 : ((if x < 0 then [45] else []) ++ offT x.natAbs : List UInt8).length ≤ 10 := by split <;> simp <;> omega
    generalize ((if x < 0 then [45] else []) ++ offT x.natAbs : List UInt8) = ot at *
    clear hP hol
    go_enter Tryz.func120, Tryz.ntmps120
    go_wp2_with fail
    refine HC.out.mono ?_
    rintro e w1 ⟨rfl, hb1⟩
    have b0 : Blk w1 w.heap.size 27 #[.int .i64 x, .int .i64 b] := (Blk.new' _ _ _ rfl).below hb1 (by simp)
    have c0 : w1.cell? ⟨w.heap.size, 0, none⟩ = some (.int .i64 x) := b0.cell_ rfl
    have HB1 := Lib.hid (And.intro b0 (hB0.trans (hb1.mono (by simp))))
    clear b0 hb1 hB0 HC
    go_wp2_with fail
    refine (HO.out _ HB1.out.2).mono ?_
    rintro e w2 ⟨rfl, hb2⟩
    have HB2 := Lib.hid (And.intro (HB1.out.1.below hb2 HB1.out.1.lt) (HB1.out.2.trans (hb2.mono HB1.out.2.size)))
    clear hb2 HB1 c0 HO
    go_wp2_with fail
    refine (letters_any _).mono ?_
    rintro e w3 ⟨rfl, h3w⟩
    have HLt := Lib.hid (show LettersAt w3 w2.heap.size from h3w ▸ Blk.new' _ _ _ rfl)
    have HB3 := Lib.hid (show Blk w3 w.heap.size 27 #[.int .i64 x, .int .i64 b] ∧ Below w.heap.size w w3 from h3w ▸ ⟨HB2.out.1.alloc _, HB2.out.2.alloc HB2.out.2.size _⟩)
    generalize w2.heap.size = gL at *
    clear h3w HB2
    go_wp2_with fail
    go_loopw [25] (fun i wr => ∃ k : Nat, k ≤ 5 ∧ i = .int .i64 (k : Int) ∧ LettersAt wr gL ∧ Blk wr w.heap.size 27 #[.int .i64 x, .int .i64 b] ∧ Below w.heap.size w wr ∧ Aside (∀ j, j < k → ¬ (baseN j = b ∧ b ≠ 0))) (fun i _ => 5 - (intOf i).toNat)
    case atStart => exact ⟨0, by omega, rfl, HLt.out, HB3.out.1, HB3.out.2, fun j hj => absurd hj (by omega)⟩
    case round =>
      obtain ⟨k, hk, rfl, hL, hC, hb, hno⟩ := hrel
      have HNo := Lib.hid hno.out
      clear hno HLt HB3
      by_cases hlt : k < 5
      · obtain ⟨c0, c1⟩ := hL.at_ k hlt
        have hz1 := hL.lt
        have hz2 := hC.lt
        have d1 : wr.cell? ⟨w.heap.size, 1, none⟩ = some (.int .i64 b) := hC.cell_ rfl
        have HLt := Lib.hid hL
        have HB1 := Lib.hid (And.intro hC hb)
        clear hL hb hC
        have hk2 : k < 5 := hlt
        have e115 : Utf8.encode 115 = ⟨#[115]⟩ := by decide +kernel
        have e117 : Utf8.encode 117 = ⟨#[117]⟩ := by decide +kernel
        rcases (by omega : b = 0 ∨ b = 1 ∨ b = 2) with rfl | rfl | rfl
        all_goals rcases (by omega : k = 0 ∨ k = 1 ∨ k = 2 ∨ k = 3 ∨ k = 4) with rfl | rfl | rfl | rfl | rfl
        all_goals simp only [letN, baseN, List.getD_cons_zero, List.getD_cons_succ, Nat.zero_mul, Nat.one_mul, Nat.zero_add] at c0 c1
        all_goals first
          | exact absurd ⟨rfl, by decide⟩ (HNo.out 1 (by decide))
          | exact absurd ⟨rfl, by decide⟩ (HNo.out 2 (by decide))
          | (go_wp2_with fail
             go_ret2
             refine ⟨?_, HB1.out.2.alloc HB1.out.2.size _⟩
             rw [HR.out, HT.out]
             exact conv_join _ _)
          | (go_wp2_with fail
             go_roundw
             case rel =>
               refine ⟨_, by decide, rfl, HLt.out.alloc _, HB1.out.1.alloc _, HB1.out.2.alloc HB1.out.2.size _, ?_⟩
               show ∀ j, j < _ → ¬ _
               decide
             case measure => simp [intOf])
      · obtain rfl : k = 5 := by omega
        have HB1 := Lib.hid hb
        have hbz : b = 0 := by
          have h1 := HNo.out 1 (by decide)
          have h2 := HNo.out 2 (by decide)
          simp only [baseN, List.getD_cons_zero, List.getD_cons_succ] at h1 h2
          omega
        subst hbz
        clear hL hb hC HNo
        go_wp2_with fail
        go_ret2
        refine ⟨?_, HB1.out⟩
        rw [HR.out, HT.out]
        simp
  · rw [if_neg h] at HC
    have HR := Lib.hid (show clockPrintR x b = ([], 2) from if_neg h)
    clear hP h
    go_enter Tryz.func120, Tryz.ntmps120
    go_wp2_with fail
    refine HC.out.mono ?_
    rintro e w1 ⟨rfl, hb1⟩
    have HB1 := Lib.hid (hB0.trans (hb1.mono (by simp)))
    clear hb1 hB0
    go_wp2_with fail
    go_ret2
    exact ⟨by rw [HR.out]; rfl, HB1.out⟩
end Go.Proofs.YtbdmieelokmhiaaGreatDoor
