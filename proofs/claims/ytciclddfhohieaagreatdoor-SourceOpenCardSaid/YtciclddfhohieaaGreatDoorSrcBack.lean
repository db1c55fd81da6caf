/-
  The plain side of reading a text again: the fields of a line that is printed, the lines of a text, a source out of its text.
  Plain laws of layer 13: as many lines of one kind as may be; a zone that stays open; lines without fields between others; the first line that is wrong.
-/
import Derived.Test.YtciclddfhohieaaGreatDoorSrcPlain
import Derived.Test.YtciclddfhohieaaGreatDoorSrcRight
set_option linter.unusedVariables false
set_option linter.unusedSimpArgs false
namespace Go.Proofs.YtciclddfhohieaaGreatDoor
open Go.RowKit

theorem word_rule : wordR lineL 1 ruleB = (1, 0) := by decide +kernel
theorem word_zone : wordR lineL 1 [90, 111, 110, 101] = (2, 0) := by decide +kernel
theorem word_link : wordR lineL 1 [76, 105, 110, 107] = (3, 0) := by decide +kernel
theorem word_shift : wordR lineL 1 [83, 104, 105, 102, 116] = (4, 0) := by decide +kernel
/-- a field that is read as it stands -/
def PF (x : List UInt8) : Prop := x ≠ [] ∧ ∀ c ∈ x, plC c = true
-- the fields that are printed
theorem PF.app {a b : List UInt8} (ha : PF a) (hb : ∀ c ∈ b, plC c = true) : PF (a ++ b) := ⟨fun e => ha.1 (List.append_eq_nil_iff.1 e).1, fun c hc => by
  rcases List.mem_append.1 hc with hc | hc
  · exact ha.2 c hc
  · exact hb c hc⟩
theorem PF.pre {a b : List UInt8} (hb : PF b) (ha : ∀ c ∈ a, plC c = true) : PF (a ++ b) := ⟨fun e => hb.1 (List.append_eq_nil_iff.1 e).2, fun c hc => by
  rcases List.mem_append.1 hc with hc | hc
  · exact ha c hc
  · exact hb.2 c hc⟩
/-- lines are read, by their fields -/
def readF : RdP → Int → List (List (List UInt8)) → RdP × Int × Int
  | st, _, [] => (st, 0, 0)
  | st, n, f :: l => if (fieldsS st n f).2 ≠ 0 then (st, n, (fieldsS st n f).2) else readF (fieldsS st n f).1 (n + 1) l
theorem readS_fields : ∀ (l : List (List UInt8)) (st : RdP) (n : Int), (∀ x ∈ l, (fieldsR x).2 = 0) → readS st n l = readF st n (l.map fun x => (fieldsR x).1)
  | [], st, n, _ => rfl
  | x :: l, st, n, h => by
    have e : lineS st n x = fieldsS st n (fieldsR x).1 := by
      unfold lineS
      rw [if_neg (by rw [h x (List.mem_cons_self ..)]; decide)]
    rw [readS, List.map_cons, readF, e]
    split
    · rfl
    · exact readS_fields l _ _ fun y hy => h y (List.mem_cons_of_mem _ hy)
theorem readF_step {st st' : RdP} {n : Int} {f : List (List UInt8)} (h : fieldsS st n f = (st', 0)) (l : List (List (List UInt8))) : readF st n (f :: l) = readF st' (n + 1) l := by
  rw [readF, h]
  rfl
theorem readF_pads : ∀ (g : Nat) (st : RdP) (n : Int) (l : List (List (List UInt8))), readF st n (List.replicate g [] ++ l) = readF st (n + g) l
  | 0, st, n, l => by simp
  | g + 1, st, n, l => by
    rw [List.replicate_succ, List.cons_append, readF_step (st' := st) rfl, readF_pads g]
    congr 1
    omega
/-- lines, each with so many empty ones behind it -/
def spread (g : Nat) (l : List (List (List UInt8))) : List (List (List UInt8)) := l.flatMap fun f => f :: List.replicate g []
theorem spread_cons (g : Nat) (f : List (List UInt8)) (l : List (List (List UInt8))) : spread g (f :: l) = f :: (List.replicate g [] ++ spread g l) := by simp [spread]
theorem readF_one {st st' : RdP} {n : Int} {f : List (List UInt8)} (h : fieldsS st n f = (st', 0)) (g : Nat) (l rest : List (List (List UInt8))) : readF st n (spread g (f :: l) ++ rest) = readF st' (n + (g + 1 : Nat)) (spread g l ++ rest) := by
  rw [spread_cons, List.cons_append, readF_step h, List.append_assoc, readF_pads]
  congr 1
  omega
/-- numbers of lines: the first, the step, how many -/
def nums (n : Int) (k : Nat) : Nat → List Int
  | 0 => []
  | j + 1 => n :: nums (n + k) k j
theorem nums_len (k : Nat) : ∀ (j : Nat) (n : Int), (nums n k j).length = j
  | 0, _ => rfl
  | j + 1, n => by rw [nums, List.length_cons, nums_len k j]
theorem rule_word (f : List (List UInt8)) (st : RdP) (n : Int) (ho : st.op = false) : fieldsS st n (ruleB :: f) = ruleS st n f := by
  rw [fieldsS, if_neg (by rw [ho]; decide)]
  unfold wordS
  rw [show wordR lineL 1 ruleB = (1, 0) from word_rule]
  rfl
theorem fields_open {st : RdP} (ho : st.op = true) (n : Int) {f : List (List UInt8)} (hf : f ≠ []) : fieldsS st n f = eraS st n f := by
  cases f with
  | nil => exact absurd rfl hf
  | cons a f => rw [fieldsS, if_pos ho]
theorem parts0_lines : ∀ (ls : List (List UInt8)) (y : List UInt8) (b : Bool), (∀ x ∈ ls, (10 : UInt8) ∉ x) → parts0 b (linesT ls ++ y) = ls ++ parts0 (b || !ls.isEmpty) y
  | [], y, b, _ => by simp [linesT]
  | x :: ls, y, b, h => by
    have e : linesT (x :: ls) ++ y = x ++ 10 :: (linesT ls ++ y) := by simp [linesT]
    rw [e, parts0_cons b (h x (List.mem_cons_self ..)), parts0_lines ls y true fun z hz => h z (List.mem_cons_of_mem _ hz)]
    simp
theorem parts0_end {y : List UInt8} (b : Bool) (hy : (10 : UInt8) ∉ y) : parts0 b y = if b = true ∧ y = [] then [] else [y] := by
  unfold parts0
  split
  · rfl
  · rw [trimNl_none hy, nlParts_one hy]
theorem longAt_none : ∀ (l : List (List UInt8)) (k : Nat), (∀ x ∈ l, x.length ≤ 300) → longAt k l = none
  | [], _, _ => rfl
  | x :: l, k, h => by
    have := h x (List.mem_cons_self ..)
    rw [longAt, if_neg (by omega)]
    exact longAt_none l _ fun y hy => h y (List.mem_cons_of_mem _ hy)
theorem nlR_ok {s : List UInt8} (h : s.length ≤ 8388608) (hl : ∀ x ∈ parts0 false s, x.length ≤ 300) : nlR s = (parts0 false s, 0, 0) := by
  have e : parts0 false s = nlParts (trimNl s) := by unfold parts0; rw [if_neg (by simp)]
  unfold nlR
  rw [e] at hl ⊢
  rw [if_neg (by omega), longAt_none _ _ hl]
/-- a text whose lines, by their fields, are known -/
theorem srcR_fields {s : List UInt8} (h : s.length ≤ 8388608) (hl : ∀ x ∈ parts0 false s, x.length ≤ 300 ∧ (fieldsR x).2 = 0) {st : RdP} (hr : readF RdP.none 1 ((parts0 false s).map fun x => (fieldsR x).1) = (st, 0, 0)) (ho : st.op = false) : srcR s = ((st.s, st.l), 0, 0) := by
  unfold srcR
  rw [nlR_ok h fun x hx => (hl x hx).1]
  simp only
  rw [readS_fields _ _ _ fun x hx => (hl x hx).2, hr]
  simp [ho]
theorem srcR_fault {s : List UInt8} (h : s.length ≤ 8388608) (hl : ∀ x ∈ parts0 false s, x.length ≤ 300 ∧ (fieldsR x).2 = 0) {st : RdP} {n e : Int} (hr : readF RdP.none 1 ((parts0 false s).map fun x => (fieldsR x).1) = (st, n, e)) (he : e ≠ 0) : srcR s = ((SourceP.none, LinesP.none), n, e) := by
  unfold srcR
  rw [nlR_ok h fun x hx => (hl x hx).1]
  simp only
  rw [readS_fields _ _ _ fun x hx => (hl x hx).2, hr]
  simp [he]
/-- a line without fields at the end changes nothing -/
theorem readF_app : ∀ (a b : List (List (List UInt8))) (st : RdP) (n : Int), readF st n (a ++ b) = if (readF st n a).2.2 ≠ 0 then readF st n a else readF (readF st n a).1 (n + a.length) b
  | [], b, st, n => by simp [readF]
  | f :: a, b, st, n => by
    have e : n + ((f :: a).length : Int) = n + 1 + (a.length : Int) := by rw [List.length_cons]; omega
    rw [List.cons_append, readF, readF, e]
    split
    · rfl
    · exact readF_app a b _ _
/-- a line that reads as fields -/
structure LineIs (x : List UInt8) (f : List (List UInt8)) : Prop where
  no : (10 : UInt8) ∉ x
  len : x.length ≤ 300
  fields : fieldsR x = (f, 0)
/-- lines that read as fields, one by one -/
inductive LinesAre : List (List UInt8) → List (List (List UInt8)) → Prop
  | nil : LinesAre [] []
  | cons {x f l fs} : LineIs x f → LinesAre l fs → LinesAre (x :: l) (f :: fs)
theorem LinesAre.app {a b : List (List UInt8)} {fa fb : List (List (List UInt8))} (h : LinesAre a fa) (h' : LinesAre b fb) : LinesAre (a ++ b) (fa ++ fb) := by
  induction h with
  | nil => exact h'
  | cons hx _ ih => exact .cons hx ih
theorem LinesAre.map {α : Type} {l : List α} {t : α → List UInt8} {f : α → List (List UInt8)} (h : ∀ x ∈ l, LineIs (t x) (f x)) : LinesAre (l.map t) (l.map f) := by
  induction l with
  | nil => exact .nil
  | cons x l ih => exact .cons (h x (List.mem_cons_self ..)) (ih fun y hy => h y (List.mem_cons_of_mem _ hy))
theorem LinesAre.all {l : List (List UInt8)} {fs : List (List (List UInt8))} (h : LinesAre l fs) : (∀ x ∈ l, (10 : UInt8) ∉ x ∧ x.length ≤ 300 ∧ (fieldsR x).2 = 0) ∧ (l.map fun x => (fieldsR x).1) = fs := by
  induction h with
  | nil => exact ⟨by simp, rfl⟩
  | cons hx _ ih =>
    refine ⟨fun y hy => ?_, ?_⟩
    · rcases List.mem_cons.1 hy with rfl | hy
      · exact ⟨hx.no, hx.len, by rw [hx.fields]⟩
      · exact ih.1 y hy
    · rw [List.map_cons, ih.2, hx.fields]
/-- the text of lines that read as fields, whose fields are read -/
theorem srcR_lines {L : List (List UInt8)} {F : List (List (List UInt8))} (h : LinesAre L F) (hl : (linesT L).length ≤ 8388608) {st : RdP} (hr : readF RdP.none 1 F = (st, 0, 0)) (ho : st.op = false) : srcR (linesT L) = ((st.s, st.l), 0, 0) := by
  obtain ⟨h1, h2⟩ := h.all
  cases L with
  | nil =>
    cases h
    have : st = RdP.none := (congrArg (·.1) hr).symm
    subst this
    decide
  | cons x L =>
    have e : parts0 false (linesT (x :: L)) = x :: L := by
      have := parts0_lines (x :: L) [] false fun y hy => (h1 y hy).1
      rwa [List.append_nil, show parts0 (false || !(x :: L).isEmpty) [] = [] from by simp [parts0], List.append_nil] at this
    refine srcR_fields hl (by rw [e]; exact fun y hy => (h1 y hy).2) (st := st) ?_ ho
    rw [e, h2, hr]
theorem eraS_at {f : List (List UInt8)} {e : EraP} (h : eraR f = (e, 0)) (rs : List RuleP) (zs : List ZoneP) (nm : List UInt8) (es : List EraP) (ls : List LinkP) (ss : List (List UInt8)) (n0 : List Int) (n1 : List (List Int)) (l : List Int) (n2 n3 : List Int) (o : Bool) (n : Int) (hz : zs.length = n1.length) :
    eraS ⟨⟨rs, zs ++ [⟨nm, es⟩], ls, ss⟩, ⟨n0, n1 ++ [l], n2, n3⟩, o⟩ n f = (⟨⟨rs, zs ++ [⟨nm, es ++ [e]⟩], ls, ss⟩, ⟨n0, n1 ++ [l ++ [n]], n2, n3⟩, e.til.is⟩, if 60 < es.length + 1 then 7 else 0) := by
  unfold eraS
  rw [h]
  have a1 : (zs ++ [(⟨nm, es⟩ : ZoneP)]).length - 1 = zs.length := by simp
  have a2 : (zs ++ [(⟨nm, es⟩ : ZoneP)]).getD zs.length ⟨[], []⟩ = ⟨nm, es⟩ := by simp [List.getD_eq_getElem?_getD]
  have a3 : (n1 ++ [l]).getD zs.length [] = l := by rw [hz]; simp [List.getD_eq_getElem?_getD]
  have a4 : ∀ z, (zs ++ [(⟨nm, es⟩ : ZoneP)]).set zs.length z = zs ++ [z] := fun z => by rw [List.set_append_right _ _ (Nat.le_refl _)]; simp
  have a5 : ∀ z, (n1 ++ [l]).set zs.length z = n1 ++ [z] := fun z => by rw [hz, List.set_append_right _ _ (Nat.le_refl _)]; simp
  rw [if_neg (fun hh => hh rfl)]
  simp only [a1, a2, a3, a4, a5]
theorem zoneF {nm : List UInt8} {f : List (List UInt8)} {e : EraP} (hn : zoneB nm = true) (h : eraR f = (e, 0)) (rs : List RuleP) (zs : List ZoneP) (ls : List LinkP) (ss : List (List UInt8)) (n0 : List Int) (n1 : List (List Int)) (n2 n3 : List Int) (n : Int) (hz : zs.length = n1.length) :
    fieldsS ⟨⟨rs, zs, ls, ss⟩, ⟨n0, n1, n2, n3⟩, false⟩ n ([90, 111, 110, 101] :: nm :: f) = (⟨⟨rs, zs ++ [⟨nm, [e]⟩], ls, ss⟩, ⟨n0, n1 ++ [[n]], n2, n3⟩, e.til.is⟩, if 500 < zs.length + 1 then 7 else 0) := by
  rw [fieldsS, if_neg (fun hh => by cases hh)]
  unfold wordS
  rw [show wordR lineL 1 [90, 111, 110, 101] = (2, 0) from word_zone]
  rw [if_neg (by decide), if_neg (by decide), if_pos rfl, zoneS, if_neg (by rw [hn]; decide)]
  have e2 := eraS_at h rs zs nm [] ls ss n0 n1 [] n2 n3 false n hz
  simp only [List.nil_append, List.length_nil, Nat.zero_add] at e2
  rw [if_neg (by decide)] at e2
  rw [show RdP.zone ⟨⟨rs, zs, ls, ss⟩, ⟨n0, n1, n2, n3⟩, false⟩ nm = ⟨⟨rs, zs ++ [⟨nm, []⟩], ls, ss⟩, ⟨n0, n1 ++ [[]], n2, n3⟩, false⟩ from rfl, e2]
  rw [if_neg (fun hh => hh rfl)]
theorem ruleF {f : List (List UInt8)} {x : RuleP} (h : ruleR f = (x, 0)) (rs : List RuleP) (zs : List ZoneP) (ls : List LinkP) (ss : List (List UInt8)) (n0 : List Int) (n1 : List (List Int)) (n2 n3 : List Int) (n : Int) :
    fieldsS ⟨⟨rs, zs, ls, ss⟩, ⟨n0, n1, n2, n3⟩, false⟩ n (ruleB :: f) = (⟨⟨rs ++ [x], zs, ls, ss⟩, ⟨n0 ++ [n], n1, n2, n3⟩, false⟩, if 2000 < rs.length + 1 then 7 else 0) := by
  rw [rule_word _ _ _ rfl]
  unfold ruleS
  rw [h, if_neg (fun hh => hh rfl)]
theorem linkF {x : LinkP} (h : linkOk x = true) (rs : List RuleP) (zs : List ZoneP) (ls : List LinkP) (ss : List (List UInt8)) (n0 : List Int) (n1 : List (List Int)) (n2 n3 : List Int) (n : Int) :
    fieldsS ⟨⟨rs, zs, ls, ss⟩, ⟨n0, n1, n2, n3⟩, false⟩ n [[76, 105, 110, 107], x.target, x.name] = (⟨⟨rs, zs, ls ++ [x], ss⟩, ⟨n0, n1, n2 ++ [n], n3⟩, false⟩, if 1000 < ls.length + 1 then 7 else 0) := by
  rw [fieldsS, if_neg (fun hh => by cases hh)]
  unfold wordS
  rw [show wordR lineL 1 [76, 105, 110, 107] = (3, 0) from word_link]
  unfold linkOk at h
  rw [Bool.and_eq_true] at h
  have e2 : linkR [x.target, x.name] = (x, 0) := by
    unfold linkR
    rw [if_neg (by simp), if_neg (by simp [h.1, h.2])]
    rfl
  rw [if_neg (by decide), if_neg (by decide), if_neg (by decide), if_pos rfl]
  unfold linkS
  rw [e2, if_neg (fun hh => hh rfl)]
theorem shiftF {x : List UInt8} (h : setB x = true) (rs : List RuleP) (zs : List ZoneP) (ls : List LinkP) (ss : List (List UInt8)) (n0 : List Int) (n1 : List (List Int)) (n2 n3 : List Int) (n : Int) :
    fieldsS ⟨⟨rs, zs, ls, ss⟩, ⟨n0, n1, n2, n3⟩, false⟩ n [[83, 104, 105, 102, 116], x] = (⟨⟨rs, zs, ls, ss ++ [x]⟩, ⟨n0, n1, n2, n3 ++ [n]⟩, false⟩, if 2000 < ss.length + 1 then 7 else 0) := by
  rw [fieldsS, if_neg (fun hh => by cases hh)]
  unfold wordS
  rw [show wordR lineL 1 [83, 104, 105, 102, 116] = (4, 0) from word_shift]
  have e2 : shiftR [x] = (x, 0) := by
    unfold shiftR
    rw [if_neg (by simp), if_neg (by simp [h])]
    rfl
  rw [if_neg (by decide), if_neg (by decide), if_neg (by decide), if_neg (by decide)]
  unfold shiftS
  rw [e2, if_neg (fun hh => hh rfl)]
/-- the same line again and again: a state for each number of lines; at the limit the next one is too much -/
theorem readF_rep {S : Nat → RdP} {f : List (List UInt8)} {lim : Nat} (hs : ∀ k, fieldsS (S k) (1 + (k : Int)) f = (S (k + 1), if lim < k + 1 then 7 else 0)) : ∀ (m k : Nat), k + m ≤ lim → readF (S k) (1 + (k : Int)) (List.replicate m f) = (S (k + m), 0, 0)
  | 0, k, _ => rfl
  | m + 1, k, h => by
    have e := hs k
    rw [if_neg (by omega)] at e
    rw [List.replicate_succ, readF_step e, show (1 + (k : Int) + 1) = 1 + ((k + 1 : Nat) : Int) by omega, readF_rep hs m (k + 1) (by omega), show k + 1 + m = k + (m + 1) by omega]
theorem readF_over {S : Nat → RdP} {f : List (List UInt8)} {lim : Nat} (hs : ∀ k, fieldsS (S k) (1 + (k : Int)) f = (S (k + 1), if lim < k + 1 then 7 else 0)) : readF (S 0) 1 (List.replicate (lim + 1) f) = (S lim, (lim : Int) + 1, 7) := by
  have h := readF_rep hs lim 0 (by omega)
  have e := hs lim
  rw [if_pos (by omega)] at e
  rw [List.replicate_succ', readF_app]
  simp only [Int.natCast_zero, Int.add_zero, Nat.zero_add] at h
  rw [h, if_neg (fun hh => hh rfl)]
  simp only [List.length_replicate]
  rw [readF, e, if_pos (show (7 : Int) ≠ 0 by decide)]
  simp only
  rw [Int.add_comm]
def nths (m : Nat) : List Int := (List.range m).map fun (i : Nat) => 1 + (i : Int)
theorem nths_snoc (m : Nat) : nths (m + 1) = nths m ++ [1 + (m : Int)] := by simp [nths, List.range_succ]
theorem rep_snoc {α : Type} (m : Nat) (x : α) : List.replicate (m + 1) x = List.replicate m x ++ [x] := List.replicate_succ'
def manyRu (x : RuleP) (k : Nat) : RdP := ⟨⟨List.replicate k x, [], [], []⟩, ⟨nths k, [], [], []⟩, false⟩
def manyZ (x : ZoneP) (k : Nat) : RdP := ⟨⟨[], List.replicate k x, [], []⟩, ⟨[], (nths k).map fun n => [n], [], []⟩, false⟩
def manyL (x : LinkP) (k : Nat) : RdP := ⟨⟨[], [], List.replicate k x, []⟩, ⟨[], [], nths k, []⟩, false⟩
def manyS (x : List UInt8) (k : Nat) : RdP := ⟨⟨[], [], [], List.replicate k x⟩, ⟨[], [], [], nths k⟩, false⟩
theorem manyR_step {f : List (List UInt8)} {x : RuleP} (h : ruleR f = (x, 0)) (k : Nat) : fieldsS (manyRu x k) (1 + (k : Int)) (ruleB :: f) = (manyRu x (k + 1), if 2000 < k + 1 then 7 else 0) := by
  unfold manyRu
  rw [ruleF h, List.length_replicate, rep_snoc, nths_snoc]
theorem manyZ_step {f : List (List UInt8)} {nm : List UInt8} {e : EraP} (hn : zoneB nm = true) (h : eraR f = (e, 0)) (he : e.til.is = false) (k : Nat) : fieldsS (manyZ ⟨nm, [e]⟩ k) (1 + (k : Int)) ([90, 111, 110, 101] :: nm :: f) = (manyZ ⟨nm, [e]⟩ (k + 1), if 500 < k + 1 then 7 else 0) := by
  unfold manyZ
  rw [zoneF hn h _ _ _ _ _ _ _ _ _ (by simp [nths]), List.length_replicate, rep_snoc, nths_snoc, he]
  simp
theorem manyL_step {x : LinkP} (h : linkOk x = true) (k : Nat) : fieldsS (manyL x k) (1 + (k : Int)) [[76, 105, 110, 107], x.target, x.name] = (manyL x (k + 1), if 1000 < k + 1 then 7 else 0) := by
  unfold manyL
  rw [linkF h, List.length_replicate, rep_snoc, nths_snoc]
theorem manyS_step {x : List UInt8} (h : setB x = true) (k : Nat) : fieldsS (manyS x k) (1 + (k : Int)) [[83, 104, 105, 102, 116], x] = (manyS x (k + 1), if 2000 < k + 1 then 7 else 0) := by
  unfold manyS
  rw [shiftF h, List.length_replicate, rep_snoc, nths_snoc]
theorem LinesAre.rep {x : List UInt8} {f : List (List UInt8)} (h : LineIs x f) : ∀ (m : Nat), LinesAre (List.replicate m x) (List.replicate m f)
  | 0 => .nil
  | m + 1 => .cons h (LinesAre.rep h m)
theorem srcR_fault_lines {L : List (List UInt8)} {F : List (List (List UInt8))} (h : LinesAre L F) (hl : (linesT L).length ≤ 8388608) {st : RdP} {n e : Int} (hr : readF RdP.none 1 F = (st, n, e)) (he : e ≠ 0) : srcR (linesT L) = ((SourceP.none, LinesP.none), n, e) := by
  obtain ⟨h1, h2⟩ := h.all
  cases L with
  | nil =>
    cases h
    exact absurd (congrArg (·.2.2) hr).symm he
  | cons x L =>
    have e1 : parts0 false (linesT (x :: L)) = x :: L := by
      have := parts0_lines (x :: L) [] false fun y hy => (h1 y hy).1
      rwa [List.append_nil, show parts0 (false || !(x :: L).isEmpty) [] = [] from by simp [parts0], List.append_nil] at this
    refine srcR_fault hl (by rw [e1]; exact fun y hy => (h1 y hy).2) (st := st) ?_ he
    rw [e1, h2, hr]
theorem linesT_rep (m : Nat) (x : List UInt8) : (linesT (List.replicate m x)).length = m * (x.length + 1) := by
  induction m with
  | zero => simp [linesT]
  | succ m ih =>
    have : linesT (List.replicate (m + 1) x) = x ++ [10] ++ linesT (List.replicate m x) := by simp [linesT, List.replicate_succ]
    rw [this, List.length_append, ih, Nat.succ_mul]
    simp
    omega
/-- as many lines of one kind as may be, and one more -/
theorem many_lines {S : Nat → RdP} {x : List UInt8} {f : List (List UInt8)} {lim : Nat} (hs : ∀ k, fieldsS (S k) (1 + (k : Int)) f = (S (k + 1), if lim < k + 1 then 7 else 0)) (h0 : S 0 = RdP.none) (ho : ∀ k, (S k).op = false) (hx : LineIs x f) (hl : (lim + 1) * (x.length + 1) ≤ 8388608) :
    srcR (linesT (List.replicate lim x)) = (((S lim).s, (S lim).l), 0, 0) ∧ srcR (linesT (List.replicate (lim + 1) x)) = ((SourceP.none, LinesP.none), (lim : Int) + 1, 7) := by
  have h1 := readF_rep hs lim 0 (by omega)
  have h2 := readF_over hs
  simp only [Int.natCast_zero, Int.add_zero, Nat.zero_add] at h1
  rw [h0] at h1 h2
  have hm : lim * (x.length + 1) ≤ (lim + 1) * (x.length + 1) := Nat.mul_le_mul_right _ (by omega)
  exact ⟨srcR_lines (LinesAre.rep hx lim) (by rw [linesT_rep]; omega) h1 (ho lim), srcR_fault_lines (LinesAre.rep hx (lim + 1)) (by rw [linesT_rep]; omega) h2 (by decide)⟩
-- an open zone
/-- eras with an end, one after the other -/
theorem readF_open {f : List (List UInt8)} {e : EraP} (hf : f ≠ []) (h : eraR f = (e, 0)) (he : e.til.is = true) (g : Nat) (rs : List RuleP) (zs : List ZoneP) (nm : List UInt8) (ls : List LinkP) (ss : List (List UInt8)) (n0 : List Int) (n1 : List (List Int)) (n2 n3 : List Int) (hz : zs.length = n1.length) (rest : List (List (List UInt8))) :
    ∀ (m : Nat) (es : List EraP) (l : List Int) (n : Int), es.length + m ≤ 60 → readF ⟨⟨rs, zs ++ [⟨nm, es⟩], ls, ss⟩, ⟨n0, n1 ++ [l], n2, n3⟩, true⟩ n (spread g (List.replicate m f) ++ rest) = readF ⟨⟨rs, zs ++ [⟨nm, es ++ List.replicate m e⟩], ls, ss⟩, ⟨n0, n1 ++ [l ++ nums n (g + 1) m], n2, n3⟩, true⟩ (n + ((g + 1) * m : Nat)) rest
  | 0, es, l, n, _ => by simp [spread, nums]
  | m + 1, es, l, n, hm => by
    have e1 := fields_open (st := ⟨⟨rs, zs ++ [⟨nm, es⟩], ls, ss⟩, ⟨n0, n1 ++ [l], n2, n3⟩, true⟩) rfl n hf
    rw [eraS_at h rs zs nm es ls ss n0 n1 l n2 n3 true n hz, if_neg (by omega), he] at e1
    rw [List.replicate_succ, readF_one e1, readF_open hf h he g rs zs nm ls ss n0 n1 n2 n3 hz rest m _ _ _ (by simp; omega)]
    congr 1
    · simp [nums, List.replicate_succ]
    · rw [Nat.mul_succ]; omega
theorem parts0_text {L : List (List UInt8)} {y : List UInt8} (h : ∀ x ∈ L, (10 : UInt8) ∉ x) (hy : (10 : UInt8) ∉ y) (hne : y ≠ []) : parts0 false (linesT L ++ y) = L ++ [y] := by
  rw [parts0_lines L y false h, parts0_end _ hy, if_neg (fun hh => hne hh.2)]
/-- lines, and one more without an end -/
theorem srcR_text {L : List (List UInt8)} {y : List UInt8} {F : List (List (List UInt8))} {f : List (List UInt8)} (h : LinesAre L F) (hy : LineIs y f) (hne : y ≠ []) (hl : (linesT L ++ y).length ≤ 8388608) {st : RdP} (hr : readF RdP.none 1 (F ++ [f]) = (st, 0, 0)) (ho : st.op = false) : srcR (linesT L ++ y) = ((st.s, st.l), 0, 0) := by
  have h3 := h.app (.cons hy .nil)
  obtain ⟨h1, h2⟩ := h3.all
  have e1 := parts0_text (fun x hx => (h1 x (List.mem_append_left _ hx)).1) hy.no hne
  refine srcR_fields hl (by rw [e1]; exact fun y hy => (h1 y hy).2) (st := st) ?_ ho
  rw [e1, h2, hr]
theorem srcR_text_fault {L : List (List UInt8)} {y : List UInt8} {F : List (List (List UInt8))} {f : List (List UInt8)} (h : LinesAre L F) (hy : LineIs y f) (hne : y ≠ []) (hl : (linesT L ++ y).length ≤ 8388608) {st : RdP} {n e : Int} (hr : readF RdP.none 1 (F ++ [f]) = (st, n, e)) (he : e ≠ 0) : srcR (linesT L ++ y) = ((SourceP.none, LinesP.none), n, e) := by
  have h3 := h.app (.cons hy .nil)
  obtain ⟨h1, h2⟩ := h3.all
  have e1 := parts0_text (fun x hx => (h1 x (List.mem_append_left _ hx)).1) hy.no hne
  refine srcR_fault hl (by rw [e1]; exact fun y hy => (h1 y hy).2) (st := st) ?_ he
  rw [e1, h2, hr]
/-- a text that ends with an open zone -/
theorem srcR_open {L : List (List UInt8)} {F : List (List (List UInt8))} (h : LinesAre L F) (hne : L ≠ []) (hl : (linesT L).length ≤ 8388608) {st : RdP} (hr : readF RdP.none 1 F = (st, 0, 0)) (ho : st.op = true) : srcR (linesT L) = ((SourceP.none, LinesP.none), lastLn st.l, 5) := by
  obtain ⟨h1, h2⟩ := h.all
  have e1 : parts0 false (linesT L) = L := by
    have := parts0_lines L [] false fun y hy => (h1 y hy).1
    rwa [List.append_nil, show parts0 (false || !L.isEmpty) [] = [] from by cases L <;> simp [parts0] at hne ⊢, List.append_nil] at this
  unfold srcR
  rw [nlR_ok hl fun x hx => by rw [e1] at hx; exact (h1 x hx).2.1, e1]
  simp only
  rw [readS_fields _ _ _ fun x hx => (h1 x hx).2.2, h2, hr]
  simp [ho]
/-- lines without fields ahead of each era -/
theorem spread_ahead {α : Type} (p e : α) (g : Nat) : ∀ (m : Nat), (List.replicate m (List.replicate g p ++ [e])).flatten ++ List.replicate g p = List.replicate g p ++ ((List.replicate m e).flatMap fun f => f :: List.replicate g p)
  | 0 => by simp
  | m + 1 => by
    rw [List.replicate_succ, List.flatten_cons, List.append_assoc, spread_ahead p e g m, List.replicate_succ, List.flatMap_cons]
    simp
/-- the lines of a zone that stays open: the first, a line without fields, the next eras -/
def openL (z p e : List UInt8) (g m : Nat) : List (List UInt8) := z :: (List.replicate m (List.replicate g p ++ [e])).flatten
theorem openL_are {z p e : List UInt8} {zf ef : List (List UInt8)} (hz : LineIs z zf) (hp : LineIs p []) (he : LineIs e ef) (g m : Nat) : LinesAre (openL z p e g m) (zf :: (List.replicate m (List.replicate g [] ++ [ef])).flatten) := by
  refine .cons hz ?_
  induction m with
  | zero => exact .nil
  | succ m ih =>
    rw [List.replicate_succ, List.replicate_succ, List.flatten_cons, List.flatten_cons]
    exact ((LinesAre.rep hp g).app (.cons he .nil)).app ih
theorem openF {nm : List UInt8} {zf ef : List (List UInt8)} {a e : EraP} (hn : zoneB nm = true) (ha : eraR zf = (a, 0)) (hai : a.til.is = true) (he : eraR ef = (e, 0)) (hei : e.til.is = true) (hne : ef ≠ []) (g m : Nat) (hm : m + 1 ≤ 60) (rest : List (List (List UInt8))) :
    readF RdP.none 1 (([90, 111, 110, 101] :: nm :: zf) :: (List.replicate m (List.replicate g [] ++ [ef])).flatten ++ List.replicate g [] ++ rest) = readF ⟨⟨[], [⟨nm, a :: List.replicate m e⟩], [], []⟩, ⟨[], [1 :: nums (1 + (g + 1 : Nat)) (g + 1) m], [], []⟩, true⟩ (1 + (((g + 1) * (m + 1) : Nat) : Int)) rest := by
  have e1 : ([90, 111, 110, 101] :: nm :: zf) :: (List.replicate m (List.replicate g [] ++ [ef])).flatten ++ List.replicate g [] ++ rest = spread g (([90, 111, 110, 101] :: nm :: zf) :: List.replicate m ef) ++ rest := by
    rw [List.cons_append, spread_ahead, spread_cons]
    rfl
  have e2 := zoneF hn ha [] [] [] [] [] [] [] [] 1 rfl
  rw [hai, if_neg (by decide)] at e2
  have e3 := readF_open hne he hei g [] [] nm [] [] [] [] [] [] rfl rest m [a] [1] (1 + (g + 1 : Nat)) (by simp; omega)
  rw [e1, show RdP.none = ⟨⟨[], [], [], []⟩, ⟨[], [], [], []⟩, false⟩ from rfl, readF_one e2]
  simp only [List.nil_append] at e3 ⊢
  rw [e3]
  congr 1
  rw [Nat.mul_succ]; omega
theorem nums_last (k : Nat) : ∀ (j : Nat) (n : Int), (nums n k (j + 1)).getLast? = some (n + (k * j : Nat))
  | 0, n => by simp [nums]
  | j + 1, n => by
    have := nums_last k j (n + k)
    rw [nums, List.getLast?_cons, this]
    simp only [Option.getD_some, Nat.mul_succ]
    congr 1
    omega
theorem linesT_len (L : List (List UInt8)) (m : Nat) (h : ∀ x ∈ L, x.length ≤ m) : (linesT L).length ≤ L.length * (m + 1) := by
  induction L with
  | nil => simp [linesT]
  | cons x L ih =>
    have e : linesT (x :: L) = x ++ [10] ++ linesT L := by simp [linesT]
    have h1 := h x (List.mem_cons_self ..)
    have h2 := ih fun y hy => h y (List.mem_cons_of_mem _ hy)
    rw [e, List.length_append, List.length_append, show (x :: L).length = L.length + 1 from rfl, Nat.succ_mul]
    simp only [List.length_cons, List.length_nil]
    omega
theorem lastL_open (nm : List UInt8) (g m : Nat) (s : SourceP) : lastLn ⟨[], [1 :: nums (1 + (g + 1 : Nat)) (g + 1) m], [], []⟩ = 1 + ((m * (g + 1) : Nat) : Int) := by
  unfold lastLn
  simp only [List.getLast?_singleton, Option.getD_some]
  have : 1 :: nums (1 + ((g + 1 : Nat) : Int)) (g + 1) m = nums 1 (g + 1) (m + 1) := rfl
  rw [this, nums_last, Nat.mul_comm]
  rfl
/-- what SourceOpen asks -/
theorem open_law {z p e t y nm : List UInt8} {zf ef tf : List (List UInt8)} {a e1 e2 : EraP} {x : LinkP} (hz : LineIs z ([90, 111, 110, 101] :: nm :: zf)) (hp : LineIs p []) (he : LineIs e ef) (ht : LineIs t tf) (hy : LineIs y [[76, 105, 110, 107], x.target, x.name]) (hyn : y ≠ []) (h0 : LineIs [] [])
    (hn : zoneB nm = true) (ha : eraR zf = (a, 0)) (hai : a.til.is = true) (he1 : eraR ef = (e1, 0)) (hei : e1.til.is = true) (hne : ef ≠ []) (ht1 : eraR tf = (e2, 0)) (hti : e2.til.is = false) (htn : tf ≠ []) (hx : linkOk x = true) (g m : Nat) (hg : g ≤ 5) (hm : m + 1 ≤ 60) (hh : ∀ v ∈ [z, p, e, t, y], v.length ≤ 60) :
    srcR (linesT (openL z p e g m ++ List.replicate g [])) = ((SourceP.none, LinesP.none), 1 + ((m * (g + 1) : Nat) : Int), 5) ∧
    (m + 1 = 60 → srcR (linesT (openL z p e g m ++ List.replicate g [] ++ [t]) ++ y) = ((SourceP.none, LinesP.none), 1 + (((m + 1) * (g + 1) : Nat) : Int), 7)) ∧
    (m + 1 < 60 → srcR (linesT (openL z p e g m ++ List.replicate g [] ++ [t]) ++ y) = ((⟨[], [⟨nm, a :: List.replicate m e1 ++ [e2]⟩], [x], []⟩, ⟨[], [1 :: nums (1 + (g + 1 : Nat)) (g + 1) m ++ [1 + (((m + 1) * (g + 1) : Nat) : Int)]], [1 + (((m + 1) * (g + 1) : Nat) : Int) + 1], []⟩), 0, 0)) := by
  have hA := openL_are hz hp he g m
  have hB := hA.app (LinesAre.rep h0 g)
  have hC := hB.app (.cons ht .nil)
  have hlen : (openL z p e g m ++ List.replicate g [] ++ [t]).length ≤ 1000 := by
    unfold openL
    simp only [List.length_append, List.length_cons, List.length_nil, List.length_flatten, List.map_replicate, List.sum_replicate_nat, List.length_replicate]
    have : m * (g + (0 + 1)) ≤ 59 * 6 := Nat.mul_le_mul (by omega) (by omega)
    omega
  have hall : ∀ v ∈ openL z p e g m ++ List.replicate g [] ++ [t], v.length ≤ 60 := by
    intro v hv
    unfold openL at hv
    simp only [List.mem_append, List.mem_cons, List.mem_flatten, List.mem_replicate, List.not_mem_nil, or_false] at hv
    rcases hv with ((rfl | ⟨q, ⟨-, rfl⟩, hv⟩) | ⟨-, rfl⟩) | rfl
    · exact hh _ (by simp)
    · simp only [List.mem_append, List.mem_replicate, List.mem_cons, List.not_mem_nil, or_false] at hv
      rcases hv with ⟨-, rfl⟩ | rfl
      · exact hh _ (by simp)
      · exact hh _ (by simp)
    · simp
    · exact hh _ (by simp)
  have k1 := linesT_len _ 60 hall
  have k2 : (linesT (openL z p e g m ++ List.replicate g [] ++ [t])).length ≤ 61000 := Nat.le_trans k1 (by omega)
  have k3 : (linesT (openL z p e g m ++ List.replicate g [])).length ≤ 61000 := by
    have e : ∀ a b : List (List UInt8), linesT (a ++ b) = linesT a ++ linesT b := fun a b => by simp [linesT]
    rw [e, List.length_append] at k2
    omega
  have k4 : y.length ≤ 60 := hh _ (by simp)
  have hem : ((g + 1) * (m + 1) : Nat) = (m + 1) * (g + 1) := Nat.mul_comm _ _
  refine ⟨?_, fun h6 => ?_, fun h6 => ?_⟩
  · have hr := openF hn ha hai he1 hei hne g m hm []
    rw [List.append_nil] at hr
    have := srcR_open hB (by simp [openL]) (by omega) hr rfl
    rw [this, lastL_open nm g m SourceP.none]
  · have hr := openF hn ha hai he1 hei hne g m hm ([tf] ++ [[[76, 105, 110, 107], x.target, x.name]])
    rw [← List.append_assoc] at hr
    have e7 := fields_open (st := ⟨⟨[], [⟨nm, a :: List.replicate m e1⟩], [], []⟩, ⟨[], [1 :: nums (1 + (g + 1 : Nat)) (g + 1) m], [], []⟩, true⟩) rfl (1 + (((g + 1) * (m + 1) : Nat) : Int)) htn
    have e8 := eraS_at ht1 [] [] nm (a :: List.replicate m e1) [] [] [] [] (1 :: nums (1 + (g + 1 : Nat)) (g + 1) m) [] [] true (1 + (((g + 1) * (m + 1) : Nat) : Int)) rfl
    rw [if_pos (by simp; omega)] at e8
    simp only [List.nil_append] at e8
    rw [e8] at e7
    rw [show ([tf] ++ [[[76, 105, 110, 107], x.target, x.name]] : List (List (List UInt8))) = tf :: [[[76, 105, 110, 107], x.target, x.name]] from rfl] at hr
    rw [readF, e7, if_pos (show (7 : Int) ≠ 0 by decide)] at hr
    rw [← hem]
    exact srcR_text_fault hC hy hyn (by rw [List.length_append]; omega) (by simpa only [List.append_assoc, List.cons_append, List.nil_append] using hr) (by decide)
  · have hr := openF hn ha hai he1 hei hne g m hm ([tf] ++ [[[76, 105, 110, 107], x.target, x.name]])
    rw [← List.append_assoc] at hr
    have e7 := fields_open (st := ⟨⟨[], [⟨nm, a :: List.replicate m e1⟩], [], []⟩, ⟨[], [1 :: nums (1 + (g + 1 : Nat)) (g + 1) m], [], []⟩, true⟩) rfl (1 + (((g + 1) * (m + 1) : Nat) : Int)) htn
    have e8 := eraS_at ht1 [] [] nm (a :: List.replicate m e1) [] [] [] [] (1 :: nums (1 + (g + 1 : Nat)) (g + 1) m) [] [] true (1 + (((g + 1) * (m + 1) : Nat) : Int)) rfl
    rw [if_neg (by simp; omega), hti] at e8
    simp only [List.nil_append] at e8
    rw [e8] at e7
    rw [show ([tf] ++ [[[76, 105, 110, 107], x.target, x.name]] : List (List (List UInt8))) = tf :: [[[76, 105, 110, 107], x.target, x.name]] from rfl] at hr
    have e9 := linkF hx [] [⟨nm, a :: List.replicate m e1 ++ [e2]⟩] [] [] [] [1 :: nums (1 + (g + 1 : Nat)) (g + 1) m ++ [1 + (((g + 1) * (m + 1) : Nat) : Int)]] [] [] (1 + (((g + 1) * (m + 1) : Nat) : Int) + 1)
    rw [if_neg (by decide)] at e9
    rw [readF_step e7, readF_step e9, readF] at hr
    rw [← hem]
    exact srcR_text hC hy hyn (by rw [List.length_append]; omega) (by simpa only [List.append_assoc, List.cons_append, List.nil_append] using hr) rfl
theorem LinesAre.last {L : List (List UInt8)} {F : List (List (List UInt8))} (h : LinesAre L F) (hne : L ≠ []) : LinesAre L.dropLast F.dropLast ∧ LineIs (L.getLast?.getD []) (F.getLast?.getD []) ∧ F = F.dropLast ++ [F.getLast?.getD []] := by
  induction h with
  | nil => exact absurd rfl hne
  | @cons x f l fs hx hl ih =>
    cases hl with
    | nil => exact ⟨.nil, hx, rfl⟩
    | @cons y g l fs hy hl =>
      obtain ⟨i1, i2, i3⟩ := ih (by simp)
      rw [List.dropLast_cons_cons, List.dropLast_cons_cons, List.getLast?_cons_cons, List.getLast?_cons_cons]
      exact ⟨.cons hx i1, i2, by rw [List.cons_append, ← i3]⟩
-- the first line that is wrong
theorem RdOk.fields {st : RdP} (h : RdOk st) {n : Int} {f : List (List UInt8)} (he : (fieldsS st n f).2 = 0) : RdOk (fieldsS st n f).1 := by
  cases f with
  | nil => exact h
  | cons a f =>
    simp only [fieldsS] at he ⊢
    by_cases ho : st.op = true
    · rw [if_pos ho] at he ⊢
      exact h.era (h.op ho) he
    · rw [if_neg ho] at he ⊢
      unfold wordS at he ⊢
      split
      · exact h
      · rename_i hw
        rw [if_neg hw] at he
        split
        · rename_i h1; rw [if_pos h1] at he; exact h.rule he
        · rename_i h1
          rw [if_neg h1] at he
          split
          · rename_i h2; rw [if_pos h2] at he; exact h.zone he
          · rename_i h2
            rw [if_neg h2] at he
            split
            · rename_i h3; rw [if_pos h3] at he; exact h.link he
            · rename_i h3; rw [if_neg h3] at he; exact h.shift he
theorem LinesAre.take {L : List (List UInt8)} {F : List (List (List UInt8))} (h : LinesAre L F) (k : Nat) : LinesAre (L.take k) (F.take k) := by
  induction h generalizing k with
  | nil => simp; exact .nil
  | cons hx _ ih =>
    cases k with
    | zero => simp; exact .nil
    | succ k => rw [List.take_succ_cons, List.take_succ_cons]; exact .cons hx (ih k)
theorem LinesAre.len {L : List (List UInt8)} {F : List (List (List UInt8))} (h : LinesAre L F) : L.length = F.length := by
  induction h with
  | nil => rfl
  | cons _ _ ih => simp [ih]
end Go.Proofs.YtciclddfhohieaaGreatDoor
