/-
  ruleline.until, ruleline.letter, ruleline.set, the closures of ruleline.fields: what each call returns.
-/
import Derived.Test.YtgfnnmdngckmmaaGreatDoorClock
import Derived.Test.YtgfnnmdngckmmaaGreatDoorYear
import Derived.Test.YtgfnnmdngckmmaaGreatDoorMonth
import Derived.Test.YtgfnnmdngckmmaaGreatDoorName
import Derived.Test.YtgfnnmdngckmmaaGreatDoorDayParse
import Derived.Test.YtgfnnmdngckmmaaGreatDoorDayPrint
import Derived.Handy
set_option linter.unusedVariables false
namespace Go.Proofs.YtgfnnmdngckmmaaGreatDoor
open Go.RowKit

/-- the listed variables, as the walks of rules ask for them -/
structure RTabs (w : World) : Prop where
  kinds : Kinds w
  weeks : Weeks w
  folds : Folds w
  months : Months w
  tos : Tos w
  units : Units w
  pows : Pows w
  esyn : ErrSyn w
  eran : ErrRan w
theorem RTabs.below {w w' : World} (h : RTabs w) (hb : Below w.heap.size w w') : RTabs w' :=
  ⟨h.kinds.below hb, h.weeks.below hb, h.folds.below hb, h.months.below hb, h.tos.below hb, h.units.below hb, h.pows.below hb, h.esyn.below hb, h.eran.below hb⟩

/-- everything but block g is as it was -/
structure But (g : Nat) (w w' : World) : Prop where
  os : w'.os = w.os
  tape : w'.tape = w.tape
  output : w'.output = w.output
  size : w.heap.size ≤ w'.heap.size
  block : ∀ k, k < w.heap.size → k ≠ g → w'.heap[k]? = w.heap[k]?
theorem But.of {g : Nat} {w w' : World} (h : Below w.heap.size w w') : But g w w' := ⟨h.os, h.tape, h.output, h.size, fun k hk _ => h.block k hk⟩
theorem But.set {g : Nat} {w w' : World} (h : But g w w') (i : Nat) (v : Value) : But g w (w'.setCell ⟨g, i, none⟩ v) :=
  ⟨h.os, h.tape, h.output, by simpa using h.size, fun k hk hne => (Below.heap_setCell w' ⟨g, i, none⟩ v k hne).trans (h.block k hk hne)⟩
theorem But.below {g B : Nat} {a w w' : World} (h : But g w w') (hb : Below B a w) (hg : B ≤ g) (hB : B ≤ a.heap.size) : Below B a w' :=
  ⟨h.os.trans hb.os, h.tape.trans hb.tape, h.output.trans hb.output, Nat.le_trans hb.size h.size, fun k hk => (h.block k (by have := hb.size; omega) (by omega)).trans (hb.block k hk)⟩
theorem Blk.but {w w' : World} {g b : Nat} {t : TypeId} {cs : Array Value} (h : Blk w b t cs) (hb : But g w w') (hne : b ≠ g) : Blk w' b t cs := (hb.block b h.lt hne).trans h

/-- what the field TO says -/
def untilR (l : List UInt8) (f : Int) : Int × Int :=
  if (∃ c ∈ l.head?, 48 ≤ c.toNat ∧ c.toNat ≤ 57) then yearR l
  else if (wordR toL 1 l).2 = 0 then (if (wordR toL 1 l).1 = 1 then (f, 0) else (1048576, 0)) else (0, (wordR toL 1 l).2)
def letterR (l : List UInt8) : List UInt8 × Int := if l = [45] then ([], 0) else if ofB 1 4 1 l = true then (l, 0) else ([], 5)
def setR (l : List UInt8) : List UInt8 × Int := if setB l = true then (l, 0) else ([], 9)
theorem wordR_err (ws : List (List UInt8)) (f : Int) (l : List UInt8) : (wordR ws f l).2 = 0 ∨ (wordR ws f l).2 = 8 := by
  unfold wordR; split <;> simp
theorem until_year {l : List UInt8} {c : UInt8} (h : l.head? = some c) (hc : 48 ≤ c.toNat ∧ c.toNat ≤ 57) (f : Int) : untilR l f = yearR l := if_pos ⟨c, h, hc⟩
theorem until_word {l : List UInt8} (h : ∀ c, l.head? = some c → ¬ (48 ≤ c.toNat ∧ c.toNat ≤ 57)) (f : Int) : untilR l f = if (wordR toL 1 l).2 = 0 then (if (wordR toL 1 l).1 = 1 then (f, 0) else (1048576, 0)) else (0, (wordR toL 1 l).2) :=
  if_neg (fun ⟨c, h1, h2⟩ => h c h1 h2)

set_option maxRecDepth 100000 in
set_option maxHeartbeats 1000000 in
theorem until_any (s : ByteArray) (f : Int) (w : World) (hs : s.size ≤ 1048576) (hT : RTabs w) :
    Calls Tryz.prog 51 #[.string s, .int .i64 f] w fun e w' => e = .returned (.tuple #[.int .i64 (untilR s.data.toList f).1, .int .i64 (untilR s.data.toList f).2]) ∧ Below w.heap.size w w' := by
  have HY := Lib.hid (year_any s w hs hT.pows hT.esyn hT.eran)
  have HW := Lib.hid (to_any s w hT.tos hs)
  clear hT
  by_cases h0 : s.size = 0
  · obtain rfl := empty_of h0
    have HR := Lib.hid (show untilR (⟨#[]⟩ : ByteArray).data.toList f = (0, 8) from rfl)
    have HW2 : Hid (Calls Tryz.prog 100 #[.string ⟨#[]⟩] w fun e w' => e = .returned (.tuple #[.int .i64 0, .int .i64 8]) ∧ Below w.heap.size w w') := HW
    go_enter Tryz.func51, Tryz.ntmps51
    go_wp2_with fail
    refine HW2.out.mono ?_
    rintro e w1 ⟨rfl, hb1⟩
    have HB := Lib.hid hb1
    clear hb1 HW HY HW2
    go_wp2_with fail
    go_ret2
    exact ⟨by rw [HR.out]; rfl, HB.out⟩
  obtain ⟨a, ha, hg⟩ := head_at h0
  have hne := list_empty h0
  have hs0 : 0 < s.size := by omega
  have g0 : ∀ h, (s[0]'h).toNat = a.toNat := fun h => by rw [hg]
  by_cases hd : 48 ≤ a.toNat ∧ a.toNat ≤ 57
  · have HR := Lib.hid (until_year ha hd f)
    obtain ⟨h48, h57⟩ := hd
    have h48i : (48 : Int) ≤ (a.toNat : Int) := by omega
    have h57i : (a.toNat : Int) ≤ 57 := by omega
    generalize yearR s.data.toList = y at *
    clear hg ha HW h48 h57
    go_enter Tryz.func51, Tryz.ntmps51
    go_wp2_with fail
    refine HY.out.mono ?_
    rintro e w1 ⟨rfl, hb1⟩
    have HB := Lib.hid hb1
    clear hb1 HY
    go_wp2_with fail
    go_ret2
    exact ⟨by rw [HR.out]; rfl, HB.out⟩
  · have HR := Lib.hid (until_word (l := s.data.toList) (fun c hc => by rw [ha] at hc; cases hc; exact hd) f)
    have hwe := wordR_err toL 1 s.data.toList
    generalize wordR toL 1 s.data.toList = y at *
    obtain ⟨n, er⟩ := y
    have hwe : er = 0 ∨ er = 8 := hwe
    clear hg ha HY h0
    rcases (by omega : (48 ≤ (a.toNat : Int) ∧ ¬ (a.toNat : Int) ≤ 57) ∨ ¬ 48 ≤ (a.toNat : Int)) with ⟨h48, h57⟩ | h48
    all_goals
      clear hd
      go_enter Tryz.func51, Tryz.ntmps51
      go_wp2_with fail
      refine HW.out.mono ?_
      rintro e w1 ⟨rfl, hb1⟩
      have HB := Lib.hid hb1
      clear hb1 HW
      rcases hwe with rfl | rfl
      · by_cases h1 : n = 1
        · subst h1
          go_wp2_with fail
          go_ret2
          exact ⟨by rw [HR.out]; rfl, HB.out⟩
        · have h1b : (n == 1) = false := beq_eq_false_iff_ne.2 h1
          have HR2 := Lib.hid (show untilR s.data.toList f = (1048576, 0) by rw [HR.out]; simp only [if_true]; rw [if_neg h1])
          clear h1
          go_wp2_with fail
          go_ret2
          exact ⟨by rw [HR2.out]; rfl, HB.out⟩
      · go_wp2_with fail
        go_ret2
        exact ⟨by rw [HR.out]; rfl, HB.out⟩

set_option maxHeartbeats 1000000 in
theorem rset_any (s : ByteArray) (w : World) (hs : s.size ≤ 1048576) :
    Calls Tryz.prog 47 #[.string s] w fun e w' => e = .returned (.tuple #[.string ⟨(setR s.data.toList).1.toArray⟩, .int .i64 (setR s.data.toList).2]) ∧ Below w.heap.size w w' := by
  have HS := Lib.hid (set_any s w hs)
  cases hb : setB s.data.toList
  · have HR := Lib.hid (show setR s.data.toList = ([], 9) by rw [setR, hb]; rfl)
    rw [hb] at HS
    clear hb
    go_enter Tryz.func47, Tryz.ntmps47
    go_wp2_with fail
    refine HS.out.mono ?_
    rintro e w1 ⟨rfl, hb1⟩
    go_wp2_with fail
    go_ret2
    exact ⟨by rw [HR.out]; rfl, hb1⟩
  · have HR := Lib.hid (show setR s.data.toList = (s.data.toList, 0) by rw [setR, hb]; rfl)
    rw [hb] at HS
    clear hb
    go_enter Tryz.func47, Tryz.ntmps47
    go_wp2_with fail
    refine HS.out.mono ?_
    rintro e w1 ⟨rfl, hb1⟩
    go_wp2_with fail
    go_ret2
    exact ⟨by rw [HR.out]; rfl, hb1⟩

theorem str_ne {s : ByteArray} {l : List UInt8} (h : s.data.toList ≠ l) : (s.toList == l) = false := beq_eq_false_iff_ne.2 (by rw [Lib.toList_data]; exact h)
theorem str_of {s : ByteArray} {l : List UInt8} (h : s.data.toList = l) : s = ⟨l.toArray⟩ := by rw [← h]
set_option maxHeartbeats 1000000 in
theorem rletter_any (s : ByteArray) (w : World) (hs : s.size ≤ 1048576) :
    Calls Tryz.prog 62 #[.string s] w fun e w' => e = .returned (.tuple #[.string ⟨(letterR s.data.toList).1.toArray⟩, .int .i64 (letterR s.data.toList).2]) ∧ Below w.heap.size w w' := by
  by_cases h45 : s.data.toList = [45]
  · obtain rfl := str_of h45
    have HR := Lib.hid (show letterR (⟨#[45]⟩ : ByteArray).data.toList = ([], 0) from rfl)
    clear h45
    go_enter Tryz.func62, Tryz.ntmps62
    go_wp2_with fail
    go_ret2
    exact ⟨by rw [HR.out]; rfl, Below.refl _ _⟩
  · have hne := str_ne h45
    have HS := Lib.hid (letter_any s w hs)
    cases hb : ofB 1 4 1 s.data.toList
    · have HR := Lib.hid (show letterR s.data.toList = ([], 5) by rw [letterR, if_neg h45, hb]; rfl)
      rw [hb] at HS
      clear hb h45
      go_enter Tryz.func62, Tryz.ntmps62
      go_wp2_with fail
      refine HS.out.mono ?_
      rintro e w1 ⟨rfl, hb1⟩
      go_wp2_with fail
      go_ret2
      exact ⟨by rw [HR.out]; rfl, hb1⟩
    · have HR := Lib.hid (show letterR s.data.toList = (s.data.toList, 0) by rw [letterR, if_neg h45, hb]; rfl)
      rw [hb] at HS
      clear hb h45
      go_enter Tryz.func62, Tryz.ntmps62
      go_wp2_with fail
      refine HS.out.mono ?_
      rintro e w1 ⟨rfl, hb1⟩
      go_wp2_with fail
      go_ret2
      exact ⟨by rw [HR.out]; rfl, hb1⟩

/-- a rule, plain -/
structure RuleP where
  name : List UInt8
  frm : Int
  til : Int
  mon : Int
  day : Int × Int × Int
  hour : Int × Int
  save : Int
  lett : List UInt8
deriving DecidableEq
def RuleP.none : RuleP := ⟨[], 0, 0, 0, (0, 0, 0), (0, 0), 0, []⟩
def RuleP.cells (r : RuleP) : Array Value := #[.string ⟨r.name.toArray⟩, .int .i64 r.frm, .int .i64 r.til, .int .i64 r.mon, .int .i64 r.day.1, .int .i64 r.day.2.1, .int .i64 r.day.2.2, .int .i64 r.hour.1, .int .i64 r.hour.2, .int .i64 r.save, .string ⟨r.lett.toArray⟩]

set_option maxRecDepth 100000 in
set_option maxHeartbeats 1000000 in
theorem field1_any (s : ByteArray) (g : Nat) (r : RuleP) (w : World) (hs : s.size ≤ 1048576) (hT : RTabs w) (hB : Blk w g 29 r.cells) :
    Calls Tryz.prog 46 #[.pointer (some ⟨g, 0, none⟩), .string s] w fun e w' => e = .returned (.int .i64 (setR s.data.toList).2) ∧ Blk w' g 29 ({ r with name := (setR s.data.toList).1 } : RuleP).cells ∧ But g w w' := by
  have HC := Lib.hid (rset_any s w hs)
  generalize setR s.data.toList = y at *
  obtain ⟨y1, y2⟩ := y
  have hlt := hB.lt
  clear hT
  go_enter Tryz.func46, Tryz.ntmps46
  go_wp2_with fail
  refine HC.out.mono ?_
  rintro e w1 ⟨rfl, hb1⟩
  have b1 := hB.below hb1 hlt
  have c0 : w1.cell? ⟨g, 0, none⟩ = some _ := b1.cell_ rfl
  have f0 := b1.frozen 0
  have HB := Lib.hid (And.intro b1 hb1)
  clear b1 hb1 hB HC
  go_wp2_with fail
  go_ret
  refine ⟨rfl, ?_, ?_⟩
  · exact HB.out.1.set_ 0 _
  · exact (But.of HB.out.2).set _ _

set_option maxRecDepth 100000 in
set_option maxHeartbeats 1000000 in
theorem field2_any (s : ByteArray) (g : Nat) (r : RuleP) (w : World) (hs : s.size ≤ 1048576) (hT : RTabs w) (hB : Blk w g 29 r.cells) :
    Calls Tryz.prog 48 #[.pointer (some ⟨g, 0, none⟩), .string s] w fun e w' => e = .returned (.int .i64 (yearR s.data.toList).2) ∧ Blk w' g 29 ({ r with frm := (yearR s.data.toList).1 } : RuleP).cells ∧ But g w w' := by
  have HC := Lib.hid (year_any s w hs hT.pows hT.esyn hT.eran)
  generalize yearR s.data.toList = y at *
  obtain ⟨y1, y2⟩ := y
  have hlt := hB.lt
  clear hT
  go_enter Tryz.func48, Tryz.ntmps48
  go_wp2_with fail
  refine HC.out.mono ?_
  rintro e w1 ⟨rfl, hb1⟩
  have b1 := hB.below hb1 hlt
  have c1 : w1.cell? ⟨g, 1, none⟩ = some _ := b1.cell_ rfl
  have f1 := b1.frozen 1
  have HB := Lib.hid (And.intro b1 hb1)
  clear b1 hb1 hB HC
  go_wp2_with fail
  go_ret
  refine ⟨rfl, ?_, ?_⟩
  · exact HB.out.1.set_ 1 _
  · exact (But.of HB.out.2).set _ _

set_option maxRecDepth 100000 in
set_option maxHeartbeats 1000000 in
theorem field3_any (s : ByteArray) (g : Nat) (r : RuleP) (w : World) (hs : s.size ≤ 1048576) (hT : RTabs w) (hB : Blk w g 29 r.cells) :
    Calls Tryz.prog 50 #[.pointer (some ⟨g, 0, none⟩), .string s] w fun e w' => e = .returned (.int .i64 (untilR s.data.toList r.frm).2) ∧ Blk w' g 29 ({ r with til := (untilR s.data.toList r.frm).1 } : RuleP).cells ∧ But g w w' := by
  have HC := Lib.hid (until_any s r.frm w hs hT)
  have cf : w.cell? ⟨g, 1, none⟩ = some (.int .i64 r.frm) := hB.cell_ rfl
  generalize untilR s.data.toList r.frm = y at *
  obtain ⟨y1, y2⟩ := y
  have hlt := hB.lt
  clear hT
  go_enter Tryz.func50, Tryz.ntmps50
  go_wp2_with fail
  refine HC.out.mono ?_
  rintro e w1 ⟨rfl, hb1⟩
  have b1 := hB.below hb1 hlt
  have c2 : w1.cell? ⟨g, 2, none⟩ = some _ := b1.cell_ rfl
  have f2 := b1.frozen 2
  have HB := Lib.hid (And.intro b1 hb1)
  clear b1 hb1 hB HC
  go_wp2_with fail
  go_ret
  refine ⟨rfl, ?_, ?_⟩
  · exact HB.out.1.set_ 2 _
  · exact (But.of HB.out.2).set _ _

set_option maxRecDepth 100000 in
set_option maxHeartbeats 1000000 in
theorem field4_any (s : ByteArray) (g : Nat) (r : RuleP) (w : World) (hs : s.size ≤ 1048576) (hT : RTabs w) (hB : Blk w g 29 r.cells) :
    Calls Tryz.prog 53 #[.pointer (some ⟨g, 0, none⟩), .string s] w fun e w' => e = .returned (.int .i64 (wordR monthL 1 s.data.toList).2) ∧ Blk w' g 29 ({ r with mon := (wordR monthL 1 s.data.toList).1 } : RuleP).cells ∧ But g w w' := by
  have HC := Lib.hid (month_any s w hT.months hs)
  generalize wordR monthL 1 s.data.toList = y at *
  obtain ⟨y1, y2⟩ := y
  have hlt := hB.lt
  clear hT
  go_enter Tryz.func53, Tryz.ntmps53
  go_wp2_with fail
  refine HC.out.mono ?_
  rintro e w1 ⟨rfl, hb1⟩
  have b1 := hB.below hb1 hlt
  have c3 : w1.cell? ⟨g, 3, none⟩ = some _ := b1.cell_ rfl
  have f3 := b1.frozen 3
  have HB := Lib.hid (And.intro b1 hb1)
  clear b1 hb1 hB HC
  go_wp2_with fail
  go_ret
  refine ⟨rfl, ?_, ?_⟩
  · exact HB.out.1.set_ 3 _
  · exact (But.of HB.out.2).set _ _

set_option maxRecDepth 100000 in
set_option maxHeartbeats 1000000 in
theorem field5_any (s : ByteArray) (g : Nat) (r : RuleP) (w : World) (hs : s.size ≤ 1048576) (hT : RTabs w) (hB : Blk w g 29 r.cells) :
    Calls Tryz.prog 55 #[.pointer (some ⟨g, 0, none⟩), .string s] w fun e w' => e = .returned (.int .i64 (parseR s.data.toList).2) ∧ Blk w' g 29 ({ r with day := (parseR s.data.toList).1 } : RuleP).cells ∧ But g w w' := by
  have HC := Lib.hid (parse_any s hs w hT.weeks hT.folds)
  generalize parseR s.data.toList = y at *
  obtain ⟨y1, y2⟩ := y
  obtain ⟨ya, yb, yc⟩ := y1
  unfold dayV at HC
  have hlt := hB.lt
  clear hT
  go_enter Tryz.func55, Tryz.ntmps55
  go_wp2_with fail
  refine HC.out.mono ?_
  rintro e w1 ⟨rfl, hb1⟩
  have b1 := hB.below hb1 hlt
  have c4 : w1.cell? ⟨g, 4, none⟩ = some _ := b1.cell_ rfl
  have f4 := b1.frozen 4
  have c5 : w1.cell? ⟨g, 5, none⟩ = some _ := b1.cell_ rfl
  have f5 := b1.frozen 5
  have c6 : w1.cell? ⟨g, 6, none⟩ = some _ := b1.cell_ rfl
  have f6 := b1.frozen 6
  have HB := Lib.hid (And.intro b1 hb1)
  clear b1 hb1 hB HC
  go_wp2_with fail
  go_ret
  refine ⟨rfl, ?_, ?_⟩
  · exact ((HB.out.1.set_ 4 _).set_ 5 _).set_ 6 _
  · exact (((But.of HB.out.2).set _ _).set _ _).set _ _

set_option maxRecDepth 100000 in
set_option maxHeartbeats 1000000 in
theorem field6_any (s : ByteArray) (g : Nat) (r : RuleP) (w : World) (hs : s.size ≤ 1048576) (hT : RTabs w) (hB : Blk w g 29 r.cells) :
    Calls Tryz.prog 57 #[.pointer (some ⟨g, 0, none⟩), .string s] w fun e w' => e = .returned (.int .i64 (clockR s.data.toList).2) ∧ Blk w' g 29 ({ r with hour := (clockR s.data.toList).1 } : RuleP).cells ∧ But g w w' := by
  have HC := Lib.hid (clockParse_any s w hs hT.units hT.esyn)
  generalize clockR s.data.toList = y at *
  obtain ⟨y1, y2⟩ := y
  obtain ⟨ya, yb⟩ := y1
  have hlt := hB.lt
  clear hT
  go_enter Tryz.func57, Tryz.ntmps57
  go_wp2_with fail
  refine HC.out.mono ?_
  rintro e w1 ⟨rfl, hb1⟩
  have b1 := hB.below hb1 hlt
  have c7 : w1.cell? ⟨g, 7, none⟩ = some _ := b1.cell_ rfl
  have f7 := b1.frozen 7
  have c8 : w1.cell? ⟨g, 8, none⟩ = some _ := b1.cell_ rfl
  have f8 := b1.frozen 8
  have HB := Lib.hid (And.intro b1 hb1)
  clear b1 hb1 hB HC
  go_wp2_with fail
  go_ret
  refine ⟨rfl, ?_, ?_⟩
  · exact (HB.out.1.set_ 7 _).set_ 8 _
  · exact ((But.of HB.out.2).set _ _).set _ _

set_option maxRecDepth 100000 in
set_option maxHeartbeats 1000000 in
theorem field7_any (s : ByteArray) (g : Nat) (r : RuleP) (w : World) (hs : s.size ≤ 1048576) (hT : RTabs w) (hB : Blk w g 29 r.cells) :
    Calls Tryz.prog 59 #[.pointer (some ⟨g, 0, none⟩), .string s] w fun e w' => e = .returned (.int .i64 (offParseR s.data.toList).2) ∧ Blk w' g 29 ({ r with save := (offParseR s.data.toList).1 } : RuleP).cells ∧ But g w w' := by
  have HC := Lib.hid (offParse_any s w hs hT.units hT.esyn)
  generalize offParseR s.data.toList = y at *
  obtain ⟨y1, y2⟩ := y
  have hlt := hB.lt
  clear hT
  go_enter Tryz.func59, Tryz.ntmps59
  go_wp2_with fail
  refine HC.out.mono ?_
  rintro e w1 ⟨rfl, hb1⟩
  have b1 := hB.below hb1 hlt
  have c9 : w1.cell? ⟨g, 9, none⟩ = some _ := b1.cell_ rfl
  have f9 := b1.frozen 9
  have HB := Lib.hid (And.intro b1 hb1)
  clear b1 hb1 hB HC
  go_wp2_with fail
  go_ret
  refine ⟨rfl, ?_, ?_⟩
  · exact HB.out.1.set_ 9 _
  · exact (But.of HB.out.2).set _ _

set_option maxRecDepth 100000 in
set_option maxHeartbeats 1000000 in
theorem field8_any (s : ByteArray) (g : Nat) (r : RuleP) (w : World) (hs : s.size ≤ 1048576) (hT : RTabs w) (hB : Blk w g 29 r.cells) :
    Calls Tryz.prog 61 #[.pointer (some ⟨g, 0, none⟩), .string s] w fun e w' => e = .returned (.int .i64 (letterR s.data.toList).2) ∧ Blk w' g 29 ({ r with lett := (letterR s.data.toList).1 } : RuleP).cells ∧ But g w w' := by
  have HC := Lib.hid (rletter_any s w hs)
  generalize letterR s.data.toList = y at *
  obtain ⟨y1, y2⟩ := y
  have hlt := hB.lt
  clear hT
  go_enter Tryz.func61, Tryz.ntmps61
  go_wp2_with fail
  refine HC.out.mono ?_
  rintro e w1 ⟨rfl, hb1⟩
  have b1 := hB.below hb1 hlt
  have c10 : w1.cell? ⟨g, 10, none⟩ = some _ := b1.cell_ rfl
  have f10 := b1.frozen 10
  have HB := Lib.hid (And.intro b1 hb1)
  clear b1 hb1 hB HC
  go_wp2_with fail
  go_ret
  refine ⟨rfl, ?_, ?_⟩
  · exact HB.out.1.set_ 10 _
  · exact (But.of HB.out.2).set _ _

set_option maxHeartbeats 400000 in
theorem skip_any (g : Nat) (s : ByteArray) (w : World) :
    Calls Tryz.prog 52 #[.pointer (some ⟨g, 0, none⟩), .string s] w fun e w' => e = .returned (.int .i64 0) ∧ w = w' := by
  go_enter Tryz.func52, Tryz.ntmps52
  go_wp2
  go_ret
  exact ⟨rfl, rfl⟩
def fieldsA : Array Value := #[.func (.func 46) #[] #[], .func (.func 48) #[] #[], .func (.func 50) #[] #[], .func (.func 52) #[] #[], .func (.func 53) #[] #[], .func (.func 55) #[] #[], .func (.func 57) #[] #[], .func (.func 59) #[] #[], .func (.func 61) #[] #[]]
set_option maxRecDepth 100000 in
set_option maxHeartbeats 400000 in
theorem fields_any (w : World) : Calls Tryz.prog 19 #[] w fun e w' => e = .returned (.slice (some ⟨w.heap.size, 0, none⟩) 9 9) ∧ w.alloc (.cells fieldsA 56) = w' := by
  go_enter Tryz.func19, Tryz.ntmps19
  go_wp2
  go_ret
  exact ⟨rfl, rfl⟩
end Go.Proofs.YtgfnnmdngckmmaaGreatDoor
