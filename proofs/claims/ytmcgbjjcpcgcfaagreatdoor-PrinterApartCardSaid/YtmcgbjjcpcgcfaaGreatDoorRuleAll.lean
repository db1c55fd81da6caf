/-
  ruleline.until, ruleline.letter, ruleline.set, the closures of ruleline.fields: what each call returns.
  ruleline.Parse: what the call returns.
  Rules and their lines, in plain Lean: the line of a rule that can be written is read as that rule, and what is read can be written.
  ruleline.last, ruleline.Print: what the calls return.
-/
import Derived.Test.YtmcgbjjcpcgcfaaGreatDoorOffAll
import Derived.Test.YtmcgbjjcpcgcfaaGreatDoorDayAll
import Derived.Handy
import Derived.Outline
import Derived.Deep.RegionHeld3
import Derived.BigQuiet
import Derived.Lib.Join
set_option linter.unusedVariables false
namespace Go.Proofs.YtmcgbjjcpcgcfaaGreatDoor
open Go.RowKit

/-- the listed variables, as the walks of rules ask for them -/
structure RTabs (w : World) : Prop where
  kinds : Kinds w
  weeks : Weeks w
  months : Months w
  pows : Pows w
theorem RTabs.below {w w' : World} (h : RTabs w) (hb : Below w.heap.size w w') : RTabs w' :=
  ⟨h.kinds.below hb, h.weeks.below hb, h.months.below hb, h.pows.below hb⟩

/-- a rule, plain -/
structure RuleP where
  name : List UInt8
  frm : Int
  til : Int
  mon : Int
  day : Int × Int × Int
  hour : Int × Int
  save : Int
  lett : List UInt8
deriving DecidableEq
def RuleP.none : RuleP := ⟨[], 0, 0, 0, (0, 0, 0), (0, 0), 0, []⟩
def RuleP.cells (r : RuleP) : Array Value := #[.string ⟨r.name.toArray⟩, .int .i64 r.frm, .int .i64 r.til, .int .i64 r.mon, .int .i64 r.day.1, .int .i64 r.day.2.1, .int .i64 r.day.2.2, .int .i64 r.hour.1, .int .i64 r.hour.2, .int .i64 r.save, .string ⟨r.lett.toArray⟩]

def ruleV (r : RuleP) : Value := .agg r.cells
theorem infoRule : (Tryz.prog.info? 47).map (·.size) = some 11 := by kernel_rfl
theorem RuleP.size (r : RuleP) : r.cells.size = 11 := rfl
def onlyB : List UInt8 := [111, 110, 108, 121]
def maxB : List UInt8 := [109, 97, 120]
def ruleB : List UInt8 := [82, 117, 108, 101]
def lastT (f t : Int) : List UInt8 := if t = f then onlyB else if t = 1048576 then maxB else Lib.itoa t
def lettT (l : List UInt8) : List UInt8 := if l = [] then [45] else l
def ruleOk (r : RuleP) : Bool := rightDay r.day.1 r.day.2.1 r.day.2.2 && clockOk r.hour.1 r.hour.2 && decide (-604799 ≤ r.save ∧ r.save ≤ 604799) && setB r.name && namedB r.frm && (namedB r.til || decide (r.til = 1048576)) && decide (1 ≤ r.mon ∧ r.mon ≤ 12) && (decide (r.lett = []) || ofB 1 4 1 r.lett)
def ruleFs (r : RuleP) : List (List UInt8) := [r.name, Lib.itoa r.frm, lastT r.frm r.til, [45], monthT r.mon, dayText r.day.1 r.day.2.1 r.day.2.2, clockT r.hour.1 r.hour.2, offTx r.save, lettT r.lett]
def ruleT (r : RuleP) : List UInt8 := joinS (ruleB :: ruleFs r)
/-- the line of a rule, and the error -/
def rulePrintR (r : RuleP) : List UInt8 × Int := if ruleOk r = true then (ruleT r, 0) else ([], 2)

structure RuleRight (r : RuleP) : Prop where
  day : rightDay r.day.1 r.day.2.1 r.day.2.2 = true
  hour : clockOk r.hour.1 r.hour.2 = true
  save : -604799 ≤ r.save ∧ r.save ≤ 604799
  name : setB r.name = true
  frm : namedB r.frm = true
  til : namedB r.til = true ∨ r.til = 1048576
  mon : 1 ≤ r.mon ∧ r.mon ≤ 12
  lett : r.lett = [] ∨ ofB 1 4 1 r.lett = true
theorem ruleOk_iff (r : RuleP) : ruleOk r = true ↔ RuleRight r := by
  simp only [ruleOk, Bool.and_eq_true, Bool.or_eq_true, decide_eq_true_eq]
  constructor
  · rintro ⟨⟨⟨⟨⟨⟨⟨h1, h2⟩, h3⟩, h4⟩, h5⟩, h6⟩, h7⟩, h8⟩; exact ⟨h1, h2, h3, h4, h5, h6, h7, h8⟩
  · rintro ⟨h1, h2, h3, h4, h5, h6, h7, h8⟩; exact ⟨⟨⟨⟨⟨⟨⟨h1, h2⟩, h3⟩, h4⟩, h5⟩, h6⟩, h7⟩, h8⟩

-- letters
-- the rule
set_option maxRecDepth 100000 in
set_option maxHeartbeats 1000000 in
theorem rulast_any (r : RuleP) (w : World) (hP : Pows w) (ht : namedB r.til = true ∨ r.til = 1048576) :
    Calls Tryz.prog 60 #[ruleV r] w fun e w' => e = .returned (.string ⟨(lastT r.frm r.til).toArray⟩) ∧ Below w.heap.size w w' := by
  obtain ⟨nm, fr, tl, mo, ⟨dk, dw, dd⟩, ⟨hs, hb⟩, sv, lt⟩ := r
  have ht2 : -9223372036854775808 ≤ tl ∧ tl ≤ 9223372036854775807 := by
    rcases ht with h | h
    · have h := of_decide_eq_true h
      simp only at h
      omega
    · simp only at h
      omega
  have HI := Lib.hid (fun W (hW : Below w.heap.size w W) => itoa_any tl W (hP.below hW) ht2.1 ht2.2)
  have HL := Lib.hid (show lastT fr tl = if tl = fr then onlyB else if tl = 1048576 then maxB else Lib.itoa tl from rfl)
  have hB0 : ∀ o, Below w.heap.size w (w.alloc o) := fun o => (Below.refl _ _).alloc (Nat.le_refl _) o
  have HB0 := Lib.hid hB0
  clear ht ht2 hP hB0
  simp only [ruleV, RuleP.cells]
  by_cases h1 : tl = fr
  · subst h1
    rw [if_pos rfl] at HL
    go_enter Tryz.func60, Tryz.ntmps60
    go_wp2_with fail
    go_ret
    exact ⟨by rw [HL.out]; rfl, HB0.out _⟩
  · rw [if_neg h1] at HL
    by_cases h2 : tl = 1048576
    · subst h2
      rw [if_pos rfl] at HL
      go_enter Tryz.func60, Tryz.ntmps60
      go_wp2_with fail
      go_ret
      exact ⟨by rw [HL.out]; rfl, HB0.out _⟩
    · rw [if_neg h2] at HL
      go_enter Tryz.func60, Tryz.ntmps60
      go_wp2_with fail
      refine (HI.out _ (HB0.out _)).mono ?_
      rintro e w1 ⟨rfl, hb1⟩
      go_wp2_with fail
      go_ret
      exact ⟨by rw [HL.out]; rfl, (HB0.out _).trans (hb1.mono (HB0.out _).size)⟩

theorem join_eq : ∀ xs : List (List UInt8), Lib.join xs [32] = joinS xs
  | [] => rfl
  | [x] => by rw [Lib.join_one]; rfl
  | x :: y :: r => by
    have ih := join_eq (y :: r)
    rw [Lib.join_cons] at ih ⊢
    rw [show joinS (x :: y :: r) = x ++ 32 :: joinS (y :: r) from if_neg (by simp), ← ih]
    simp [Lib.joinTail]
theorem fields_len {r : RuleP} (h : RuleRight r) : ∀ a ∈ ruleB :: ruleFs r, a.length ≤ 30 := by
  intro a ha
  simp only [ruleFs, List.mem_cons, List.not_mem_nil, or_false] at ha
  rcases ha with rfl | rfl | rfl | rfl | rfl | rfl | rfl | rfl | rfl | rfl
  · decide
  · exact set_len h.name
  · obtain ⟨n, hn, h1, h2⟩ := named_nat h.frm
    rw [hn, itoa_nat]; exact dec_len4 n (by omega)
  · unfold lastT
    split
    · decide
    · split
      · decide
      · rename_i h1
        obtain ⟨n, hn, h1, h2⟩ := named_nat (h.til.resolve_right h1)
        rw [hn, itoa_nat]; exact dec_len4 n (by omega)
  · decide
  · have := monthT_len r.mon; omega
  · have := (day_back h.day).2.2; omega
  · have h2 := h.hour
    simp only [clockOk, Bool.and_eq_true, decide_eq_true_eq] at h2
    have := off_len h2.1
    show (offTx r.hour.1 ++ _).length ≤ 30
    rw [List.length_append]
    split
    · simp; omega
    · split <;> simp <;> omega
  · have := off_len h.save; omega
  · unfold lettT
    split
    · decide
    · rename_i h1
      have := (ofB_len (h.lett.resolve_left h1)).2
      omega
theorem ruleT_len {r : RuleP} (h : RuleRight r) : (ruleT r).length ≤ 310 := joinS_len _ (fields_len h)

theorem rjoin_any (xs : List (List UInt8)) (bk c : Nat) (w : World) (hlen : (joinS xs).length ≤ 1048576) (hx : xs.length ≤ 100) (hc : xs.length ≤ c)
    (hcells : ∀ (j : Nat) x, xs[j]? = some x → w.cell? ⟨bk, j, none⟩ = some (.string ⟨x.toArray⟩)) (hbk : bk < w.heap.size) :
    Calls Tryz.prog 58 #[.slice (some ⟨bk, 0, none⟩) (xs.length : Nat) c, .string ⟨#[32]⟩] w fun e w' => e = .returned (.string ⟨(joinS xs).toArray⟩) ∧ Below w.heap.size w w' := by
  have hm : (xs.map fun x => (⟨x.toArray⟩ : ByteArray)).map (·.data.toList) = xs := by
    rw [List.map_map, show ((fun x : ByteArray => x.data.toList) ∘ fun x : List UInt8 => (⟨x.toArray⟩ : ByteArray)) = id from funext fun x => by simp, List.map_id]
  have := Any.strings_Join Tryz.lays156 Tryz.Builder_Extra_156 bk 0 c (xs.map fun x => ⟨x.toArray⟩) ⟨#[32]⟩ w (by
    intro j x hj
    rw [List.getElem?_map] at hj
    cases hy : xs[j]? with
    | none => rw [hy] at hj; simp at hj
    | some y =>
      rw [hy] at hj
      have hj : (⟨y.toArray⟩ : ByteArray) = x := by simpa using hj
      rw [← hj, Nat.zero_add]
      exact hcells j y hy) hbk (by simp; omega) (by simpa using hc) (by rw [hm, show (⟨#[32]⟩ : ByteArray).data.toList = [32] from rfl, join_eq]; omega)
  rw [hm, show (⟨#[32]⟩ : ByteArray).data.toList = [32] from rfl, join_eq, List.length_map] at this
  exact this

def RHeld (w : World) (g : Nat) (sn : ByteArray) (fr tl mo dk dw dd hs hb sv : Int) (sl : ByteArray) (W : World) : Prop :=
  W.cell? ⟨g, 0, none⟩ = some (.string sn) ∧ W.cell? ⟨g, 1, none⟩ = some (.int .i64 fr) ∧ W.cell? ⟨g, 2, none⟩ = some (.int .i64 tl) ∧ W.cell? ⟨g, 3, none⟩ = some (.int .i64 mo) ∧ W.cell? ⟨g, 4, none⟩ = some (.int .i64 dk) ∧ W.cell? ⟨g, 5, none⟩ = some (.int .i64 dw) ∧ W.cell? ⟨g, 6, none⟩ = some (.int .i64 dd) ∧ W.cell? ⟨g, 7, none⟩ = some (.int .i64 hs) ∧ W.cell? ⟨g, 8, none⟩ = some (.int .i64 hb) ∧ W.cell? ⟨g, 9, none⟩ = some (.int .i64 sv) ∧ W.cell? ⟨g, 10, none⟩ = some (.string sl) ∧ Below w.heap.size w W
theorem RHeld.below {w W W' : World} {g : Nat} {sn sl : ByteArray} {fr tl mo dk dw dd hs hb sv : Int} (h : RHeld w g sn fr tl mo dk dw dd hs hb sv sl W) (hbw : Below W.heap.size W W') : RHeld w g sn fr tl mo dk dw dd hs hb sv sl W' := by
  obtain ⟨h0, h1, h2, h3, h4, h5, h6, h7, h8, h9, h10, h11⟩ := h
  have g : ∀ i v, W.cell? ⟨g, i, none⟩ = some v → W'.cell? ⟨g, i, none⟩ = some v := fun i v hv => (hbw.cell (block_lt_of_cell hv)).trans hv
  exact ⟨g _ _ h0, g _ _ h1, g _ _ h2, g _ _ h3, g _ _ h4, g _ _ h5, g _ _ h6, g _ _ h7, g _ _ h8, g _ _ h9, g _ _ h10, h11.trans (hbw.mono h11.size)⟩
theorem RHeld.calls {P : Program} {f : FuncId} {args : Array Value} {w W : World} {g : Nat} {sn sl : ByteArray} {fr tl mo dk dw dd hs hb sv : Int} {E : Ending} (h : RHeld w g sn fr tl mo dk dw dd hs hb sv sl W) (hc : Calls P f args W fun e w' => e = E ∧ Below W.heap.size W w') : Calls P f args W fun e w' => e = E ∧ RHeld w g sn fr tl mo dk dw dd hs hb sv sl w' :=
  hc.mono fun e w' ⟨he, hb⟩ => ⟨he, h.below hb⟩

theorem lettT_len {l : List UInt8} (h : l.length ≤ 1048576) : (lettT l).length ≤ 1048576 := by
  unfold lettT; split
  · decide
  · exact h
set_option maxRecDepth 100000 in
set_option maxHeartbeats 2000000 in
theorem rulePrint_any (r : RuleP) (w : World) (hT : RTabs w) (hn : r.name.length ≤ 1048576) (hl : r.lett.length ≤ 1048576) :
    Calls Tryz.prog 17 #[ruleV r] w fun e w' => e = .returned (.tuple #[.string ⟨(rulePrintR r).1.toArray⟩, .int .i64 (rulePrintR r).2]) ∧ Below w.heap.size w w' := by
  obtain ⟨nm, fr, tl, mo, ⟨dk, dw, dd⟩, ⟨hs, hb⟩, sv, lt⟩ := r
  obtain ⟨sn, rfl⟩ : ∃ sn : ByteArray, nm = sn.data.toList := ⟨⟨nm.toArray⟩, by simp⟩
  obtain ⟨sl, rfl⟩ : ∃ sl : ByteArray, lt = sl.data.toList := ⟨⟨lt.toArray⟩, by simp⟩
  obtain ⟨R, hR⟩ : ∃ R, rulePrintR ⟨sn.data.toList, fr, tl, mo, ⟨dk, dw, dd⟩, ⟨hs, hb⟩, sv, sl.data.toList⟩ = R := ⟨_, rfl⟩
  have HN := Lib.hid (show ¬ RuleRight ⟨sn.data.toList, fr, tl, mo, ⟨dk, dw, dd⟩, ⟨hs, hb⟩, sv, sl.data.toList⟩ → R = ([], 2) from fun h => hR ▸ if_neg fun h2 => h ((ruleOk_iff _).1 h2))
  have HY := Lib.hid (show RuleRight ⟨sn.data.toList, fr, tl, mo, ⟨dk, dw, dd⟩, ⟨hs, hb⟩, sv, sl.data.toList⟩ → R = (ruleT ⟨sn.data.toList, fr, tl, mo, ⟨dk, dw, dd⟩, ⟨hs, hb⟩, sv, sl.data.toList⟩, 0) from fun h => hR ▸ if_pos ((ruleOk_iff _).2 h))
  rw [hR]
  have HT := Lib.hid (fun W (hW : Below w.heap.size w W) => hT.below hW)
  have hB0 : ∀ o, Below w.heap.size w (w.alloc o) := fun o => (Below.refl _ _).alloc (Nat.le_refl _) o
  have HB0 := Lib.hid hB0
  clear hR hB0 hT
  simp only at hn hl
  simp only [ruleV, RuleP.cells]
  change Calls Tryz.prog 17 #[.agg #[.string sn, .int .i64 fr, .int .i64 tl, .int .i64 mo, .int .i64 dk, .int .i64 dw, .int .i64 dd, .int .i64 hs, .int .i64 hb, .int .i64 sv, .string sl]] w _
  have HD := Lib.hid (show (rightDay dk dw dd = true ∧ printR dk dw dd = (dayText dk dw dd, 0)) ∨ (¬ rightDay dk dw dd = true ∧ printR dk dw dd = ([], 2)) from (Decidable.em (rightDay dk dw dd = true)).imp (fun h => ⟨h, if_pos h⟩) fun h => ⟨h, if_neg h⟩)
  have HC := Lib.hid (show (clockOk hs hb = true ∧ clockPrintR hs hb = (clockT hs hb, 0)) ∨ (¬ clockOk hs hb = true ∧ clockPrintR hs hb = ([], 2)) from (Decidable.em (clockOk hs hb = true)).imp (fun h => ⟨h, if_pos h⟩) fun h => ⟨h, if_neg h⟩)
  have HO := Lib.hid (off_cases sv)
  have HP1 := Lib.hid (fun W (hW : RTabs W) => print_any dk dw dd W hW.kinds hW.weeks)
  have HP2 := Lib.hid (fun W (hW : RTabs W) => clockPrint_any hs hb W hW.pows)
  have HP3 := Lib.hid (fun W (hW : RTabs W) => offPrint_any sv W hW.pows)
  obtain ⟨dt, de, hdp⟩ : ∃ dt de, printR dk dw dd = (dt, de) := ⟨_, _, rfl⟩
  obtain ⟨ct, ce, hcp⟩ : ∃ ct ce, clockPrintR hs hb = (ct, ce) := ⟨_, _, rfl⟩
  obtain ⟨ot, oe, hop⟩ : ∃ ot oe, offPrintR sv = (ot, oe) := ⟨_, _, rfl⟩
  rw [hdp] at HD
  rw [hcp] at HC
  rw [hop] at HO
  simp only [hdp] at HP1
  simp only [hcp] at HP2
  simp only [hop] at HP3
  clear hdp hcp hop
  go_enter Tryz.func17, Tryz.ntmps17
  go_wp2_with fail
  refine (HP1.out _ (HT.out _ (HB0.out _))).mono ?_
  rintro e w1 ⟨rfl, hb1⟩
  have HB1 := Lib.hid (And.intro ((Blk.new' w 47 #[.string sn, .int .i64 fr, .int .i64 tl, .int .i64 mo, .int .i64 dk, .int .i64 dw, .int .i64 dd, .int .i64 hs, .int .i64 hb, .int .i64 sv, .string sl] rfl).below hb1 (by simp)) ((HB0.out _).trans (hb1.mono (HB0.out _).size)))
  have c7 : w1.cell? ⟨w.heap.size, 7, none⟩ = some (.int .i64 hs) := HB1.out.1.cell_ rfl
  have c8 : w1.cell? ⟨w.heap.size, 8, none⟩ = some (.int .i64 hb) := HB1.out.1.cell_ rfl
  clear hb1 HB0 HP1
  go_wp2_with fail
  refine (HP2.out _ (HT.out _ HB1.out.2)).mono ?_
  rintro e w2 ⟨rfl, hb2⟩
  have HB2 := Lib.hid (And.intro (HB1.out.1.below hb2 HB1.out.1.lt) (HB1.out.2.trans (hb2.mono HB1.out.2.size)))
  clear hb2 HB1 HP2 c7 c8
  have c9 : w2.cell? ⟨w.heap.size, 9, none⟩ = some (.int .i64 sv) := HB2.out.1.cell_ rfl
  go_wp2_with fail
  refine (HP3.out _ (HT.out _ HB2.out.2)).mono ?_
  rintro e w3 ⟨rfl, hb3⟩
  have HB3 := Lib.hid (And.intro (HB2.out.1.below hb3 HB2.out.1.lt) (HB2.out.2.trans (hb3.mono HB2.out.2.size)))
  clear hb3 HB2 HP3 c9
  have c10 : w3.cell? ⟨w.heap.size, 10, none⟩ = some (.string sl) := HB3.out.1.cell_ rfl
  obtain ⟨sL, hsL⟩ : ∃ sL : ByteArray, (⟨(lettT sl.data.toList).toArray⟩ : ByteArray) = sL := ⟨_, rfl⟩
  have HsL := Lib.hid (show sL.data.toList = lettT sl.data.toList by rw [← hsL])
  have HsM := Lib.hid hsL
  clear hsL
  go_upto_if 32 with fail
  go_cut [10] (fun s10 wx => s10 = .string sL ∧ wx = w3)
  case first =>
    by_cases hlt : sl.data.toList = []
    · have hle : sl.toList.isEmpty = true := by rw [Lib.toList_data, hlt]; rfl
      rw [hle]
      go_wp2_with fail
      go_meet
      exact ⟨by rw [← HsM.out, hlt]; rfl, rfl⟩
    · have HLt := Lib.hid (show lettT sl.data.toList = sl.data.toList from if_neg hlt)
      have hle : sl.toList.isEmpty = false := by rw [Lib.toList_data]; cases h : sl.data.toList with | nil => exact absurd h hlt | cons a l => rfl
      rw [hle]
      clear hlt
      go_wp2_with fail
      go_meet
      exact ⟨by rw [← HsM.out, HLt.out], rfl⟩
  case rest =>
    obtain ⟨rfl, rfl⟩ := hcut
    clear c10
    have HS := Lib.hid (fun W => set_any sn W (by rw [size_len]; exact hn))
    have HLe := Lib.hid (fun W => letter_any sL W (by rw [size_len, HsL.out]; exact lettT_len hl))
    have HLx := Lib.hid (show (sl = ⟨#[]⟩ ∧ sL = ⟨#[45]⟩) ∨ (sl = ⟨#[45]⟩ ∧ sL = ⟨#[45]⟩) ∨ (sl.data.toList ≠ [] ∧ sl.data.toList ≠ [45] ∧ sL = sl) by
      by_cases h0 : sl.data.toList = []
      · exact .inl ⟨str_of h0, by rw [← HsM.out, h0]; rfl⟩
      · by_cases h1 : sl.data.toList = [45]
        · exact .inr (.inl ⟨str_of h1, by rw [← HsM.out, h1]; rfl⟩)
        · exact .inr (.inr ⟨h0, h1, by rw [← HsM.out, lettT, if_neg h0]⟩))
    clear hn hl
    go_upto_region 7 with fail
    go_cut [89] (fun s89 wx => (s89 = .bool true ∧ Hid (R = ([], 2)) ∨ s89 = .bool false ∧ Hid (RuleRight ⟨sn.data.toList, fr, tl, mo, ⟨dk, dw, dd⟩, ⟨hs, hb⟩, sv, sl.data.toList⟩)) ∧ Blk wx w.heap.size 47 #[.string sn, .int .i64 fr, .int .i64 tl, .int .i64 mo, .int .i64 dk, .int .i64 dw, .int .i64 dd, .int .i64 hs, .int .i64 hb, .int .i64 sv, .string sl] ∧ Below w.heap.size w wx)
    case first =>
      rcases HD.out with ⟨hd, he⟩ | ⟨hd, he⟩
      case inr =>
        obtain ⟨rfl, rfl⟩ := Prod.mk.inj he
        have HR := Lib.hid (HN.out fun h => hd h.day)
        clear hd he HD HC HO HN HY HS HLe HLx HT
        go_wp2_with fail
        go_meet
        exact ⟨.inl ⟨rfl, HR⟩, HB3.out⟩
      obtain ⟨hdt, rfl⟩ := Prod.mk.inj he
      have HD1 := Lib.hid (And.intro hd hdt)
      clear hd he hdt HD
      rcases HC.out with ⟨hd, he⟩ | ⟨hd, he⟩
      case inr =>
        obtain ⟨rfl, rfl⟩ := Prod.mk.inj he
        have HR := Lib.hid (HN.out fun h => hd h.hour)
        clear hd he HC HO HN HY HS HLe HLx HT
        go_wp2_with fail
        go_meet
        exact ⟨.inl ⟨rfl, HR⟩, HB3.out⟩
      obtain ⟨hdt, rfl⟩ := Prod.mk.inj he
      have HC1 := Lib.hid (And.intro hd hdt)
      clear hd he hdt HC
      rcases HO.out with ⟨hd, he⟩ | ⟨hd, he⟩
      case inr =>
        obtain ⟨rfl, rfl⟩ := Prod.mk.inj he
        have HR := Lib.hid (HN.out fun h => hd h.save)
        clear hd he HO HN HY HS HLe HLx HT
        go_wp2_with fail
        go_meet
        exact ⟨.inl ⟨rfl, HR⟩, HB3.out⟩
      obtain ⟨hdt, rfl⟩ := Prod.mk.inj he
      have HO1 := Lib.hid (And.intro hd hdt)
      clear hd he hdt HO
      have c0 : wc.cell? ⟨w.heap.size, 0, none⟩ = some (.string sn) := HB3.out.1.cell_ rfl
      go_wp2_with fail
      refine (HS.out _).mono ?_
      rintro e w4 ⟨rfl, hb4⟩
      have HB4 := Lib.hid (And.intro (HB3.out.1.below hb4 HB3.out.1.lt) (HB3.out.2.trans (hb4.mono HB3.out.2.size)))
      clear hb4 HB3 c0 HS
      cases hset : setB sn.data.toList
      case false =>
        have HR := Lib.hid (HN.out fun h => Bool.noConfusion (hset.symm.trans h.name))
        clear hset HN HY HLe HLx HT HD1 HC1 HO1
        go_wp2_with fail
        go_meet
        exact ⟨.inl ⟨rfl, HR⟩, HB4.out⟩
      have HSet := Lib.hid hset
      clear hset
      have c1 : w4.cell? ⟨w.heap.size, 1, none⟩ = some (.int .i64 fr) := HB4.out.1.cell_ rfl
      go_wp2_with fail
      refine (named_any fr _).mono ?_
      rintro e w5 ⟨rfl, rfl⟩
      cases hfr : namedB fr
      case false =>
        have HR := Lib.hid (HN.out fun h => Bool.noConfusion (hfr.symm.trans h.frm))
        clear hfr HN HY HLe HLx HT HD1 HC1 HO1
        go_wp2_with fail
        go_meet
        exact ⟨.inl ⟨rfl, HR⟩, HB4.out⟩
      have HFr := Lib.hid hfr
      clear hfr c1
      have c2 : w4.cell? ⟨w.heap.size, 2, none⟩ = some (.int .i64 tl) := HB4.out.1.cell_ rfl
      have c3 : w4.cell? ⟨w.heap.size, 3, none⟩ = some (.int .i64 mo) := HB4.out.1.cell_ rfl
      go_wp2_with fail
      refine (named_any tl _).mono ?_
      rintro e w5 ⟨rfl, rfl⟩
      by_cases htl : namedB tl = true ∨ tl = 1048576
      case neg =>
        have HR := Lib.hid (HN.out fun h => htl h.til)
        have ht1 : namedB tl = false := by cases h : namedB tl with | false => rfl | true => exact absurd (.inl h) htl
        have ht2 : (tl != 1048576) = true := by rw [bne_iff_ne]; exact fun h => htl (.inr h)
        rw [ht1]
        clear htl HN HY HLe HLx HT HD1 HC1 HO1 ht1
        go_wp2_with fail
        go_meet
        exact ⟨.inl ⟨rfl, HR⟩, HB4.out⟩
      have HTl := Lib.hid htl
      have HTx := Lib.hid (show namedB tl = true ∨ (namedB tl = false ∧ tl = 1048576) by cases h : namedB tl with | true => exact .inl rfl | false => exact .inr ⟨rfl, htl.resolve_left (by rw [h]; decide)⟩)
      clear htl
      by_cases hmo : 1 ≤ mo ∧ mo ≤ 12
      case neg =>
        have HR := Lib.hid (HN.out fun h => hmo h.mon)
        clear HN HY HLe HLx HT HD1 HC1 HO1
        rcases HTx.out with h | ⟨h, rfl⟩
        all_goals
          rw [h]
          clear h HTx
          rcases (by omega : mo < 1 ∨ (¬ mo < 1 ∧ 12 < mo)) with hm | ⟨hm, hm2⟩
          all_goals
            clear hmo
            go_wp2_with fail
            go_meet
            exact ⟨.inl ⟨rfl, HR⟩, HB4.out⟩
      obtain ⟨hm1, hm2⟩ := hmo
      have c10 : w4.cell? ⟨w.heap.size, 10, none⟩ = some (.string sl) := HB4.out.1.cell_ rfl
      have HRR := Lib.hid (show (sl.data.toList = [] ∨ ofB 1 4 1 sl.data.toList = true) → RuleRight ⟨sn.data.toList, fr, tl, mo, ⟨dk, dw, dd⟩, ⟨hs, hb⟩, sv, sl.data.toList⟩ from fun h => ⟨HD1.out.1, HC1.out.1, HO1.out.1, HSet.out, HFr.out, HTl.out, ⟨hm1, hm2⟩, h⟩)
      have hm3 : ¬ mo < 1 := by omega
      have hm4 : ¬ 12 < mo := by omega
      clear hm1 hm2 HD1 HC1 HO1 HSet HFr HTl HT HY
      rcases HTx.out with h | ⟨h, rfl⟩
      all_goals
        rw [h]
        clear h HTx
        rcases HLx.out with ⟨rfl, rfl⟩ | ⟨rfl, rfl⟩ | ⟨hl0, hl1, rfl⟩
        · have HR2 := Lib.hid (HRR.out (.inl rfl))
          clear HLx HRR HsL HsM
          go_wp2_with fail
          go_meet
          exact ⟨.inr ⟨by simp [hm3, hm4], HR2⟩, HB4.out⟩
        · have HR := Lib.hid (HN.out fun h => by rcases h.lett with h | h; exact absurd (show ([45] : List UInt8) = [] from h) (by decide); exact absurd (show ofB 1 4 1 [45] = true from h) (by decide))
          clear HLx HRR HsL HsM
          go_wp2_with fail
          go_meet
          exact ⟨.inl ⟨rfl, HR⟩, HB4.out⟩
        · have hne : (sL.toList == [45]) = false := str_ne hl1
          go_wp2_with fail
          refine (HLe.out _).mono ?_
          rintro e w6 ⟨rfl, hb6⟩
          have HB6 := Lib.hid (And.intro (HB4.out.1.below hb6 HB4.out.1.lt) (HB4.out.2.trans (hb6.mono HB4.out.2.size)))
          clear hb6 HB4 c2 c3 c10 HLe
          have c10 : w6.cell? ⟨w.heap.size, 10, none⟩ = some (.string sL) := HB6.out.1.cell_ rfl
          cases hlx : ofB 1 4 1 sL.data.toList
          · have HR := Lib.hid (HN.out fun h => by rcases h.lett with h | h; exact absurd h hl0; exact Bool.noConfusion (hlx.symm.trans h))
            clear HLx HRR HsL HsM hl0 hl1 hlx
            go_wp2_with fail
            go_meet
            exact ⟨.inl ⟨rfl, HR⟩, HB6.out⟩
          · have HR2 := Lib.hid (HRR.out (.inr hlx))
            clear HLx HRR HsL HsM hl0 hl1 hlx
            go_wp2_with fail
            go_meet
            exact ⟨.inr ⟨by simp [hm3, hm4], HR2⟩, HB6.out⟩
    case rest =>
      obtain ⟨hv, hB, hBw⟩ := hcut
      rcases hv with ⟨rfl, HR⟩ | ⟨rfl, HR⟩
      · have HBw := Lib.hid hBw
        clear hB hBw HN HY HT HD HC HO HS HLe HLx
        go_wp2_with fail
        go_ret2
        exact ⟨by rw [HR.out]; rfl, HBw.out⟩
      · have HF := Lib.hid (show dt = dayText dk dw dd ∧ ct = clockT hs hb ∧ ot = offTx sv from
          ⟨by rcases HD.out with ⟨_, h⟩ | ⟨h, _⟩; exact (Prod.mk.inj h).1; exact absurd HR.out.day h, by rcases HC.out with ⟨_, h⟩ | ⟨h, _⟩; exact (Prod.mk.inj h).1; exact absurd HR.out.hour h, by rcases HO.out with ⟨_, h⟩ | ⟨h, _⟩; exact (Prod.mk.inj h).1; exact absurd HR.out.save h⟩)
        have hfr := of_decide_eq_true HR.out.frm
        have hmo := HR.out.mon
        simp only at hfr hmo
        have HI := Lib.hid (show ∀ W, RHeld w w.heap.size sn fr tl mo dk dw dd hs hb sv sl W → Calls Tryz.prog 59 #[.int .i64 fr] W fun e w' => e = .returned (.string ⟨(Lib.itoa fr).toArray⟩) ∧ RHeld w w.heap.size sn fr tl mo dk dw dd hs hb sv sl w' from fun W h => h.calls (itoa_any fr W (HT.out W h.2.2.2.2.2.2.2.2.2.2.2).pows (by omega) (by omega)))
        have HLa := Lib.hid (show ∀ W, RHeld w w.heap.size sn fr tl mo dk dw dd hs hb sv sl W → Calls Tryz.prog 60 #[.agg #[.string sn, .int .i64 fr, .int .i64 tl, .int .i64 mo, .int .i64 dk, .int .i64 dw, .int .i64 dd, .int .i64 hs, .int .i64 hb, .int .i64 sv, .string sl]] W fun e w' => e = .returned (.string ⟨(lastT fr tl).toArray⟩) ∧ RHeld w w.heap.size sn fr tl mo dk dw dd hs hb sv sl w' from fun W h => h.calls (rulast_any ⟨sn.data.toList, fr, tl, mo, ⟨dk, dw, dd⟩, ⟨hs, hb⟩, sv, sl.data.toList⟩ W (HT.out W h.2.2.2.2.2.2.2.2.2.2.2).pows HR.out.til))
        have HMo := Lib.hid (show ∀ W, RHeld w w.heap.size sn fr tl mo dk dw dd hs hb sv sl W → Calls Tryz.prog 61 #[.int .i64 mo] W fun e w' => e = .returned (.string ⟨(monthT mo).toArray⟩) ∧ RHeld w w.heap.size sn fr tl mo dk dw dd hs hb sv sl w' from fun W h => h.calls (monthText_any mo W (HT.out W h.2.2.2.2.2.2.2.2.2.2.2).months (by omega) (by omega)))
        have HRF := Lib.hid (show R = (joinS [ruleB, sn.data.toList, Lib.itoa fr, lastT fr tl, [45], monthT mo, dt, ct, ot, sL.data.toList], 0) by rw [HY.out HR.out, HF.out.1, HF.out.2.1, HF.out.2.2, HsL.out]; rfl)
        have HLn := Lib.hid (show (joinS [ruleB, sn.data.toList, Lib.itoa fr, lastT fr tl, [45], monthT mo, dt, ct, ot, sL.data.toList]).length ≤ 1048576 by
          have h1 := HRF.out
          rw [HY.out HR.out] at h1
          rw [← (Prod.mk.inj h1).1]
          have := ruleT_len HR.out
          omega)
        clear hfr hmo
        generalize Lib.itoa fr = t1 at *
        generalize lastT fr tl = t2 at *
        generalize monthT mo = t3 at *
        obtain ⟨q0, q1, q2, q3, q4, q5, q6, q7, q8, q9, q10⟩ : wc.cell? ⟨w.heap.size, 0, none⟩ = some (.string sn) ∧ wc.cell? ⟨w.heap.size, 1, none⟩ = some (.int .i64 fr) ∧ wc.cell? ⟨w.heap.size, 2, none⟩ = some (.int .i64 tl) ∧ wc.cell? ⟨w.heap.size, 3, none⟩ = some (.int .i64 mo) ∧ wc.cell? ⟨w.heap.size, 4, none⟩ = some (.int .i64 dk) ∧ wc.cell? ⟨w.heap.size, 5, none⟩ = some (.int .i64 dw) ∧ wc.cell? ⟨w.heap.size, 6, none⟩ = some (.int .i64 dd) ∧ wc.cell? ⟨w.heap.size, 7, none⟩ = some (.int .i64 hs) ∧ wc.cell? ⟨w.heap.size, 8, none⟩ = some (.int .i64 hb) ∧ wc.cell? ⟨w.heap.size, 9, none⟩ = some (.int .i64 sv) ∧ wc.cell? ⟨w.heap.size, 10, none⟩ = some (.string sl) := ⟨hB.cell_ rfl, hB.cell_ rfl, hB.cell_ rfl, hB.cell_ rfl, hB.cell_ rfl, hB.cell_ rfl, hB.cell_ rfl, hB.cell_ rfl, hB.cell_ rfl, hB.cell_ rfl, hB.cell_ rfl⟩
        clear hB HN HY HD HC HO HS HLe HLx HF HR HsL HsM HT
        go_wp2_with fail
        go_region_held3 (fun w' => w'.cell? ⟨w.heap.size, 0, none⟩ = some (.string sn) ∧ w'.cell? ⟨w.heap.size, 1, none⟩ = some (.int .i64 fr) ∧ w'.cell? ⟨w.heap.size, 2, none⟩ = some (.int .i64 tl) ∧ w'.cell? ⟨w.heap.size, 3, none⟩ = some (.int .i64 mo) ∧ w'.cell? ⟨w.heap.size, 4, none⟩ = some (.int .i64 dk) ∧ w'.cell? ⟨w.heap.size, 5, none⟩ = some (.int .i64 dw) ∧ w'.cell? ⟨w.heap.size, 6, none⟩ = some (.int .i64 dd) ∧ w'.cell? ⟨w.heap.size, 7, none⟩ = some (.int .i64 hs) ∧ w'.cell? ⟨w.heap.size, 8, none⟩ = some (.int .i64 hb) ∧ w'.cell? ⟨w.heap.size, 9, none⟩ = some (.int .i64 sv) ∧ w'.cell? ⟨w.heap.size, 10, none⟩ = some (.string sl) ∧ Below w.heap.size w w')
          ((repeat' apply And.intro) <;> (repeat (first | (with_reducible assumption) | (with_reducible refine rcell_drew ?_) | (with_reducible refine rcell_alloc ?_ _) | (with_reducible refine Below.drew ?_) | (with_reducible refine rbelow_alloc ?_ _))))
          (first | ((go_at_call 59; refine (HI.out _ (by exact ⟨by first | (with_reducible assumption) | exact rcell_drew (by with_reducible assumption), by first | (with_reducible assumption) | exact rcell_drew (by with_reducible assumption), by first | (with_reducible assumption) | exact rcell_drew (by with_reducible assumption), by first | (with_reducible assumption) | exact rcell_drew (by with_reducible assumption), by first | (with_reducible assumption) | exact rcell_drew (by with_reducible assumption), by first | (with_reducible assumption) | exact rcell_drew (by with_reducible assumption), by first | (with_reducible assumption) | exact rcell_drew (by with_reducible assumption), by first | (with_reducible assumption) | exact rcell_drew (by with_reducible assumption), by first | (with_reducible assumption) | exact rcell_drew (by with_reducible assumption), by first | (with_reducible assumption) | exact rcell_drew (by with_reducible assumption), by first | (with_reducible assumption) | exact rcell_drew (by with_reducible assumption), by first | (with_reducible assumption) | exact Below.drew (by with_reducible assumption)⟩)).mono ?_; rintro e w7 ⟨rfl, d0, d1, d2, d3, d4, d5, d6, d7, d8, d9, d10, d11⟩)) | ((go_at_call 60; refine (HLa.out _ (by exact ⟨by first | (with_reducible assumption) | exact rcell_drew (by with_reducible assumption), by first | (with_reducible assumption) | exact rcell_drew (by with_reducible assumption), by first | (with_reducible assumption) | exact rcell_drew (by with_reducible assumption), by first | (with_reducible assumption) | exact rcell_drew (by with_reducible assumption), by first | (with_reducible assumption) | exact rcell_drew (by with_reducible assumption), by first | (with_reducible assumption) | exact rcell_drew (by with_reducible assumption), by first | (with_reducible assumption) | exact rcell_drew (by with_reducible assumption), by first | (with_reducible assumption) | exact rcell_drew (by with_reducible assumption), by first | (with_reducible assumption) | exact rcell_drew (by with_reducible assumption), by first | (with_reducible assumption) | exact rcell_drew (by with_reducible assumption), by first | (with_reducible assumption) | exact rcell_drew (by with_reducible assumption), by first | (with_reducible assumption) | exact Below.drew (by with_reducible assumption)⟩)).mono ?_; rintro e w8 ⟨rfl, d0, d1, d2, d3, d4, d5, d6, d7, d8, d9, d10, d11⟩)) | ((go_at_call 61; refine (HMo.out _ (by exact ⟨by first | (with_reducible assumption) | exact rcell_drew (by with_reducible assumption), by first | (with_reducible assumption) | exact rcell_drew (by with_reducible assumption), by first | (with_reducible assumption) | exact rcell_drew (by with_reducible assumption), by first | (with_reducible assumption) | exact rcell_drew (by with_reducible assumption), by first | (with_reducible assumption) | exact rcell_drew (by with_reducible assumption), by first | (with_reducible assumption) | exact rcell_drew (by with_reducible assumption), by first | (with_reducible assumption) | exact rcell_drew (by with_reducible assumption), by first | (with_reducible assumption) | exact rcell_drew (by with_reducible assumption), by first | (with_reducible assumption) | exact rcell_drew (by with_reducible assumption), by first | (with_reducible assumption) | exact rcell_drew (by with_reducible assumption), by first | (with_reducible assumption) | exact rcell_drew (by with_reducible assumption), by first | (with_reducible assumption) | exact Below.drew (by with_reducible assumption)⟩)).mono ?_; rintro e w9 ⟨rfl, d0, d1, d2, d3, d4, d5, d6, d7, d8, d9, d10, d11⟩)) | ((go_at_call 58; refine (RHeld.calls (w := w) (g := w.heap.size) (sn := sn) (fr := fr) (tl := tl) (mo := mo) (dk := dk) (dw := dw) (dd := dd) (hs := hs) (hb := hb) (sv := sv) (sl := sl) (by exact ⟨rcell_alloc (by with_reducible assumption) _, rcell_alloc (by with_reducible assumption) _, rcell_alloc (by with_reducible assumption) _, rcell_alloc (by with_reducible assumption) _, rcell_alloc (by with_reducible assumption) _, rcell_alloc (by with_reducible assumption) _, rcell_alloc (by with_reducible assumption) _, rcell_alloc (by with_reducible assumption) _, rcell_alloc (by with_reducible assumption) _, rcell_alloc (by with_reducible assumption) _, rcell_alloc (by with_reducible assumption) _, rbelow_alloc (by with_reducible assumption) _⟩) (rjoin_any [ruleB, sn.data.toList, t1, t2, [45], t3, dt, ct, ot, sL.data.toList] _ 10 _ HLn.out (by simp) (by simp) (by exact strs_cells (Blk.new' _ _ _ rfl) _ rfl) (by simp))).mono ?_; rintro e w10 ⟨rfl, d0, d1, d2, d3, d4, d5, d6, d7, d8, d9, d10, d11⟩)))
        have HBw := Lib.hid d11
        clear d0 d1 d2 d3 d4 d5 d6 d7 d8 d9 d10 d11
        go_wp2_with fail
        go_ret2
        exact ⟨by rw [HRF.out]; rfl, HBw.out⟩
end Go.Proofs.YtmcgbjjcpcgcfaaGreatDoor
