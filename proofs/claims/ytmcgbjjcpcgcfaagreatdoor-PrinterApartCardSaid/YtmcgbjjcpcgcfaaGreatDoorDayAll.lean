/-
  Words for memory that the walks of this seat share: a slice that reads as a list (nil let in), an append of such a slice, a row of the call's own as a slice that reads.
  A block of memory that is known whole.
  The package-level tables as cells of memory; plain day forms.
  Small words that the walks share: strings joined; a contract that keeps cells.
  strings.HasPrefix: what the call returns.
  word.small: what the call returns.
  dayform.Check: what the call returns.
  strings.IndexByte, and strings.IndexRune in the string of the two signs: what each call returns.
  word.beginning and its iterator: what it yields.
  strings.IndexAny of any string and the two signs: the index of the first sign.
  word.find: what the call returns.
  word.numbered, word.Week, dayspec.week: what each call returns.
  strings.EqualFold of any four bytes and the word "last".
  word.short of the weekdays, word.WeekText.
  word.short, word.WeekText, dayspec.number.
  dayspec.compared, dayspec.Parse: what the calls return.
  dayspec.Print: what the call returns.
-/
import Derived.WalkKit
import Derived.WalkSpells
import Derived.WalkLawsBesides
import Derived.Below
import Derived.Laws.OwnMore
import Derived.Deep.AppendLies
import Derived.Deep.Draws
import Derived.Maps.AppendAt
import Derived.RegionTactic
import Derived.OwnWalk
import Derived.Lib.Hide
import Derived.Shelf.Bytes.SlEqualAll
import Derived.Laws.Rows
import Derived.Test.YtmcgbjjcpcgcfaaGreatDoorProg
import Derived.Lib.Bytealg
import Derived.Lib.Strings
import Derived.Lib.IndexBytes
import Derived.Laws.IdiomStrings
import Derived.Laws.EntriesVeiled
import Derived.Laws.RangeAny
import Derived.Laws.RangeString
import Derived.WalkMore
import Derived.BigQuiet
import Derived.Deep.QuietTactic
import Derived.RangeFuncNested
import Derived.RangeFuncBound
import Derived.RangeFuncCalls
import Derived.RangeFuncLeaves
import Derived.RangeFuncFrom
import Derived.Shelf.Abstract
import Derived.Shelf.RegionOpen
import Derived.OwnWalkIn
import Derived.TacticsInMore
import Derived.LoopNIn
import Derived.LoopIn
import Derived.Test.YtmcgbjjcpcgcfaaGreatDoorShelf
import Derived.Lib.IndexAny
import Derived.Lib.OthersKept
import Derived.WalkSmall
import Derived.RangeFuncBox
import Derived.RegionIn
import Derived.OrdersIn
import Derived.Lib.Fold
import Derived.Lib.Case
import Derived.Laws.Strings3
import Derived.ScopeJumps
import Derived.Deep.LoopGhost
import Derived.Deep.RegionHeld3
import Derived.Lib.SlTrimSet
import Derived.Handy
set_option linter.unusedVariables false
namespace Go.Proofs.YtmcgbjjcpcgcfaaGreatDoor
open Go.RowKit

theorem block_of_add (a : Addr) (n : Nat) : (a.add n).block = a.block := by unfold Addr.add; split <;> rfl
theorem add_of_add (a : Addr) (i j : Nat) : (a.add i).add j = a.add (i + j) := by
  unfold Addr.add
  by_cases hi : i = 0 <;> by_cases hj : j = 0 <;> simp [hi, hj, Nat.add_assoc]

def Reads (w : World) (B size : Nat) (A : Option Addr) (n : Nat) (xs : List Value) : Prop :=
  xs.length = n * size ∧ (0 < n → ∃ ad, A = some ad ∧ ad.block < B ∧ ∀ j u, xs[j]? = some u → w.cell? (ad.add j) = some u)

section
variable {w w' : World} {B B' size n : Nat} {A : Option Addr} {xs : List Value}
theorem Reads.none_ : Reads w B size A 0 [] := ⟨by simp, fun h => absurd h (by omega)⟩
theorem Reads.at_ {k : Nat} (h : Reads w B 1 A n xs) (hk : k < n) : ∃ ad u, A = some ad ∧ ad.block < B ∧ xs[k]? = some u ∧ w.cell? (ad.add k) = some u := by
  obtain ⟨ad, e, hb, hc⟩ := h.2 (by omega)
  have hl : k < xs.length := by have := h.1; omega
  exact ⟨ad, xs[k], e, hb, List.getElem?_eq_getElem hl, hc k _ (List.getElem?_eq_getElem hl)⟩
theorem Reads.keep (h : Reads w B size A n xs) (hk : ∀ p : Addr, p.block < B → w'.cell? p = w.cell? p) : Reads w' B size A n xs :=
  ⟨h.1, fun hn => by
    obtain ⟨ad, e, hb, hc⟩ := h.2 hn
    exact ⟨ad, e, hb, fun j u hu => (hk _ (by rw [block_of_add]; exact hb)).trans (hc j u hu)⟩⟩
theorem Reads.below (h : Reads w B size A n xs) (hb : Below B w w') : Reads w' B size A n xs := h.keep fun _ hp => hb.cell hp
theorem Reads.drew (h : Reads w B size A n xs) : Reads w.drew B size A n xs := h
theorem Reads.drewN (h : Reads w B size A n xs) (k : Nat) : Reads (w.drewN k) B size A n xs := h
theorem Reads.alloc (h : Reads w B size A n xs) (hB : B ≤ w.heap.size) (o : Obj) : Reads (w.alloc o) B size A n xs := h.keep fun p hp => World.cell?_alloc_lt w o p (by omega)
theorem Reads.setCell (h : Reads w B size A n xs) {p : Addr} (hB : B ≤ p.block) (u : Value) : Reads (w.setCell p u) B size A n xs :=
  h.keep fun q hq => World.cell?_setCell_other w p q u (fun e => by subst e; omega)
theorem Reads.grown (h : Reads w B size A n xs) {row : Option Nat} (hg : w.grownBy w' row) (hB : B ≤ w.heap.size) (hr : ∀ g, row = some g → B ≤ g) : Reads w' B size A n xs :=
  h.keep fun p hp => World.cell?_of_block (hg.block p.block (by omega) (fun e => by have := hr _ e.symm; omega))
theorem Reads.cut (h : Reads w B size A n xs) {k cap : Nat} (hk : k ≤ n) (hc : n ≤ cap) :
    Reads w B size (if cap = k then A else A.map (·.add (k * size))) (n - k) (xs.drop (k * size)) := by
  refine ⟨by rw [List.length_drop, h.1, Nat.sub_mul], fun hn => ?_⟩
  obtain ⟨ad, rfl, hb, hcell⟩ := h.2 (by omega)
  rw [if_neg (by omega)]
  refine ⟨ad.add (k * size), rfl, by rw [block_of_add]; exact hb, fun j u hu => ?_⟩
  rw [add_of_add]
  exact hcell _ u (by rw [← hu, List.getElem?_drop])
theorem Reads.take (h : Reads w B size A n xs) {k : Nat} (hk : k ≤ n) : Reads w B size A k (xs.take (k * size)) := by
  refine ⟨by rw [List.length_take, h.1]; exact Nat.min_eq_left (Nat.mul_le_mul_right _ hk), fun hn => ?_⟩
  obtain ⟨ad, rfl, hb, hcell⟩ := h.2 (by omega)
  refine ⟨ad, rfl, hb, fun j u hu => hcell j u ?_⟩
  rw [List.getElem?_take] at hu
  split at hu
  · exact hu
  · cases hu
theorem Reads.of_own {base : Nat} {e : TypeId} {c : Nat} (h : w.ownsRow base e size (.slice A n c) n xs) : Reads w w.heap.size size A n xs := by
  refine ⟨h.1, fun hn => ?_⟩
  obtain ⟨g, cap, hv, _, hlt⟩ := h.form hn
  have hA : A = some ⟨g, 0, none⟩ := by injection hv
  subst hA
  exact ⟨_, rfl, hlt, h.cells (g := g) rfl⟩
end
section
variable {P : Program} (w : World)

theorem own_base {w : World} {base e size n : Nat} {v : Value} {xs : List Value} (h : w.ownsRow base e size v n xs) : ∀ k, v.ownBlock = some k → base ≤ k := by
  intro k hk
  rcases h.2 with ⟨rfl, _⟩ | ⟨g, cap, cur, rfl, hg, _⟩
  · simp [Value.ownBlock] at hk
  · simp [Value.ownBlock] at hk; omega
/-- behind an append of one element (laid in a block of its own) to a row of the call's own -/
theorem below_push {B : Nat} {w wr w1 : World} {o : Obj} {e size n : Nat} {v : Value} {xs : List Value} (hb : Below B w wr) (hB : B ≤ wr.heap.size) (hown : wr.ownsRow B e size v n xs) (hg : (wr.alloc o).grownBy w1 v.ownBlock) : Below B w w1 :=
  (hb.alloc hB o).grown hg (by simp; omega) (own_base hown)
theorem run_append_of_nil (base : Nat) (t ty e : TypeId) (i : TypeInfo) (size : Nat) (ht : P.underlying t = some (.slice e)) (hi : P.info? e = some i)
    (v : Value) (n : Nat) (xs : List Value) (hown : w.ownsRow base e size v n xs) (c : Nat) : (Builtin.append_ #[t, t] ty #[v, .slice none 0 c]).run P w = .ok v w := by
  rcases hown.2 with ⟨rfl, rfl⟩ | ⟨g, cap, cur, rfl, _, _, hnc, _⟩
  · simp [Builtin.append_, run_underlying ht, sizeOf, typeInfo, hi, Builtin.lenOf, Builtin.firstCells]
  · simp [Builtin.append_, run_underlying ht, sizeOf, typeInfo, hi, Builtin.lenOf, Builtin.firstCells, hnc, storeCells]

theorem run_append_any (base : Nat) (t ty e : TypeId) (i : TypeInfo) (z : Value) (size bytes : Nat) (ht : P.underlying t = some (.slice e)) (hi : P.info? e = some i) (hz : i.zero = some z)
    (hsize : i.size = size) (hby : i.bytes = bytes) (hzs : z.cells.size = size) (hsz : 0 < size)
    (v : Value) (n : Nat) (xs : List Value) (hown : w.ownsRow base e size v n xs)
    (B : Nat) (A : Option Addr) (m c : Nat) (news : List Value) (hr : Reads w B size A m news) (h1 : ∀ u ∈ news, u.oneCell' = true)
    (h63 : n + m ≤ maxLen) (hbytes : (n + m) * bytes ≤ 140737488355328) (hbase : base ≤ w.heap.size) :
    ∃ v' w', (Builtin.append_ #[t, t] ty #[v, .slice A m c]).run P w = .ok v' w' ∧ w'.ownsRow base e size v' (n + m) (xs ++ news) ∧ w.grownBy w' v.ownBlock ∧
      (v'.ownBlock = v.ownBlock ∨ v'.ownBlock = some w.heap.size) := by
  rcases A with _ | ad
  · have hm : m = 0 := by
      rcases Nat.eq_zero_or_pos m with h0 | h0
      · exact h0
      · obtain ⟨ad, h, _⟩ := hr.2 h0
        cases h
    subst hm
    have hn : news = [] := List.eq_nil_of_length_eq_zero (by simpa using hr.1)
    subst hn
    exact ⟨v, w, run_append_of_nil w base t ty e i size ht hi v n xs hown c, by simpa using hown, World.grownBy.refl w _, .inl rfl⟩
  · have hcells : ∀ j u, news[j]? = some u → w.cell? (ad.add j) = some u := by
      intro j u hu
      rcases Nat.eq_zero_or_pos m with h0 | h0
      · subst h0
        have hn : news = [] := List.eq_nil_of_length_eq_zero (by simpa using hr.1)
        subst hn
        simp at hu
      · obtain ⟨ad', h, _, hc⟩ := hr.2 h0
        injection h with h
        subst h
        exact hc j u hu
    obtain ⟨v', w', hrun, h2, h3, _, h5⟩ := run_append_own_at (P := P) w base t ty e i z size bytes ht hi hz hsize hby hzs hsz v n xs hown ad m c news hr.1 hcells h1 h63 hbytes hbase
    exact ⟨v', w', hrun, h2, h3, h5⟩

theorem wp_append_any {o : Oper} {a : Act} {K : Act → World → Prop} {Q : Exit → Act → World → Prop} (s x : Operand) (t : TypeId)
    (ho : o.op = .call { callee := .builtin .append, args := #[s, x], argTypes := #[t, t] })
    (base : Nat) (e : TypeId) (i : TypeInfo) (z : Value) (size bytes : Nat) (ht : P.underlying t = some (.slice e)) (hi : P.info? e = some i) (hz : i.zero = some z)
    (hsize : i.size = size) (hby : i.bytes = bytes) (hzs : z.cells.size = size) (hsz : 0 < size)
    (v : Value) (n : Nat) (xs : List Value) (hs : a.eval s = v) (hown : w.ownsRow base e size v n xs)
    (B : Nat) (A : Option Addr) (m c : Nat) (news : List Value) (hx : a.eval x = .slice A m c) (hr : Reads w B size A m news) (h1 : ∀ u ∈ news, u.oneCell' = true)
    (h63 : n + m ≤ maxLen) (hbytes : (n + m) * bytes ≤ 140737488355328) (hbase : base ≤ w.heap.size)
    (h : ∀ v' w', w'.ownsRow base e size v' (n + m) (xs ++ news) → w.grownBy w' v.ownBlock → (v'.ownBlock = v.ownBlock ∨ v'.ownBlock = some w.heap.size) → K (a.put o.dst v') w') : o.wp P a w K Q := by
  obtain ⟨v', w', hrun, h2, h3, h4⟩ := run_append_any (P := P) w base t o.type e i z size bytes ht hi hz hsize hby hzs hsz v n xs hown B A m c news hr h1 h63 hbytes hbase
  unfold Oper.wp execOp
  simp only [ho, resolve, invoke, builtin, Sem.run_bind, Sem.run_pure, Result.andThen_ok, List.map_toArray, List.map_cons, List.map_nil, hs, hx, hrun]
  exact h v' w' h2 h3 h4

theorem wpList_append_any {ops : Array Oper} {rest : List Oper} {o : Oper} {a : Act} {Q : Exit → Act → World → Prop} (hgd : o.guard = none) (s x : Operand) (t : TypeId)
    (ho : o.op = .call { callee := .builtin .append, args := #[s, x], argTypes := #[t, t] })
    (base : Nat) (e : TypeId) (i : TypeInfo) (z : Value) (size bytes : Nat) (ht : P.underlying t = some (.slice e)) (hi : P.info? e = some i) (hz : i.zero = some z)
    (hsize : i.size = size) (hby : i.bytes = bytes) (hzs : z.cells.size = size) (hsz : 0 < size)
    (v : Value) (n : Nat) (xs : List Value) (hs : a.eval s = v) (hown : w.ownsRow base e size v n xs)
    (B : Nat) (A : Option Addr) (m c : Nat) (news : List Value) (hx : a.eval x = .slice A m c) (hr : Reads w B size A m news) (h1 : ∀ u ∈ news, u.oneCell' = true)
    (h63 : n + m ≤ maxLen) (hbytes : (n + m) * bytes ≤ 140737488355328) (hbase : base ≤ w.heap.size)
    (h : ∀ v' w', w'.ownsRow base e size v' (n + m) (xs ++ news) → w.grownBy w' v.ownBlock → (v'.ownBlock = v.ownBlock ∨ v'.ownBlock = some w.heap.size) → wpList P ops Q rest (a.put o.dst v') w') : wpList P ops Q (o :: rest) a w :=
  wpList_plain hgd fun _ hK => wp_append_any w s x t ho base e i z size bytes ht hi hz hsize hby hzs hsz v n xs hs hown B A m c news hx hr h1 h63 hbytes hbase fun v' w' h2 h3 h4 => hK _ _ (h v' w' h2 h3 h4)

end

def Blk (w : World) (g : Nat) (t : TypeId) (cs : Array Value) : Prop := w.heap[g]? = some (.cells cs t (0, 0))
section
variable {w w' : World} {g : Nat} {t : TypeId} {cs : Array Value}
theorem Blk.lt (h : Blk w g t cs) : g < w.heap.size := by
  rcases Nat.lt_or_ge g w.heap.size with hlt | hge
  · exact hlt
  · unfold Blk at h; rw [Array.getElem?_eq_none hge] at h; cases h
theorem Blk.cell (h : Blk w g t cs) (i : Nat) : w.cell? ⟨g, i, none⟩ = cs[i]? := cell_of_row w g i cs t (0, 0) h
theorem Blk.frozen (h : Blk w g t cs) (i : Nat) : w.frozen? ⟨g, i, none⟩ = false := by
  unfold Blk at h
  simp [World.frozen?, h]
theorem Blk.new (w : World) (t : TypeId) (cs : Array Value) : Blk (w.alloc (.cells cs t)) w.heap.size t cs := heap_alloc_new w _
theorem Blk.new' (w : World) (t : TypeId) (cs : Array Value) (h : g = w.heap.size) : Blk (w.alloc (.cells cs t)) g t cs := by subst h; exact Blk.new w t cs
theorem Blk.drew (h : Blk w g t cs) : Blk w.drew g t cs := h
theorem Blk.drewN (h : Blk w g t cs) (n : Nat) : Blk (w.drewN n) g t cs := h
theorem Blk.alloc (h : Blk w g t cs) (o : Obj) : Blk (w.alloc o) g t cs := (Below.heap_alloc w o g h.lt).trans h
theorem Blk.below {B : Nat} (h : Blk w g t cs) (hb : Below B w w') (hg : g < B) : Blk w' g t cs := (hb.block g hg).trans h
end
theorem Blk.set_ {w : World} {g : Nat} {t : TypeId} {cs : Array Value} (h : Blk w g t cs) (i : Nat) (u : Value) : Blk (w.setCell ⟨g, i, none⟩ u) g t (cs.setIfInBounds i u) := by
  unfold Blk at h ⊢
  simp [World.setCell, Array.getElem?_modify, h]
theorem Blk.far {w : World} {g : Nat} {t : TypeId} {cs : Array Value} (h : Blk w g t cs) {p : Addr} (hp : g ≠ p.block) (u : Value) : Blk (w.setCell p u) g t cs := (Below.heap_setCell w p u g hp).trans h
theorem Blk.cell_ {w : World} {g : Nat} {t : TypeId} {cs : Array Value} (h : Blk w g t cs) {i : Nat} {u : Value} (hu : cs[i]? = some u) : w.cell? ⟨g, i, none⟩ = some u := (h.cell i).trans hu


def weekL : List (List UInt8) := [[115, 117, 110, 100, 97, 121], [109, 111, 110, 100, 97, 121], [116, 117, 101, 115, 100, 97, 121], [119, 101, 100, 110, 101, 115, 100, 97, 121], [116, 104, 117, 114, 115, 100, 97, 121], [102, 114, 105, 100, 97, 121], [115, 97, 116, 117, 114, 100, 97, 121]]

/-- the table of kinds: which kinds have a weekday, which have a day -/
structure Kinds (w : World) : Prop where
  w1 : w.cell? ⟨1, 3, none⟩ = some (.bool false)
  d1 : w.cell? ⟨1, 4, none⟩ = some (.bool true)
  w2 : w.cell? ⟨1, 6, none⟩ = some (.bool true)
  d2 : w.cell? ⟨1, 7, none⟩ = some (.bool false)
  w3 : w.cell? ⟨1, 9, none⟩ = some (.bool true)
  d3 : w.cell? ⟨1, 10, none⟩ = some (.bool true)
  w4 : w.cell? ⟨1, 12, none⟩ = some (.bool true)
  d4 : w.cell? ⟨1, 13, none⟩ = some (.bool true)
  f1 : w.cell? ⟨1, 5, none⟩ = some (.func (.func 195) #[] #[])
  f2 : w.cell? ⟨1, 8, none⟩ = some (.func (.func 196) #[] #[])
  f3 : w.cell? ⟨1, 11, none⟩ = some (.func (.func 198) #[] #[])
  f4 : w.cell? ⟨1, 14, none⟩ = some (.func (.func 200) #[] #[])
theorem Kinds.below {w w' : World} (h : Kinds w) (hb : Below w.heap.size w w') : Kinds w' := by
  have k : ∀ {i : Nat} {v : Value}, w.cell? ⟨1, i, none⟩ = some v → w'.cell? ⟨1, i, none⟩ = some v := fun hc => (hb.cell (block_lt_of_cell hc)).trans hc
  exact ⟨k h.w1, k h.d1, k h.w2, k h.d2, k h.w3, k h.d3, k h.w4, k h.d4, k h.f1, k h.f2, k h.f3, k h.f4⟩

/-- the table of weekdays -/
def Weeks (w : World) : Prop := ∀ i l, weekL[i]? = some l → w.cell? ⟨2, i, none⟩ = some (.string ⟨l.toArray⟩)
theorem Weeks.below {w w' : World} (h : Weeks w) (hb : Below w.heap.size w w') : Weeks w' := fun i l hl => (hb.cell (block_lt_of_cell (h i l hl))).trans (h i l hl)

def rightDay (k wk d : Int) : Bool :=
  (k == 1 && wk == 0 && decide (1 ≤ d ∧ d ≤ 31)) || (k == 2 && decide (0 ≤ wk ∧ wk ≤ 6) && d == 0) || ((k == 3 || k == 4) && decide (0 ≤ wk ∧ wk ≤ 6) && decide (1 ≤ d ∧ d ≤ 31))
def checkR (k wk d : Int) : Int := if rightDay k wk d = true then 0 else 2


theorem ba_append (a b : Array UInt8) : (⟨a⟩ ++ ⟨b⟩ : ByteArray) = ⟨a ++ b⟩ := by apply ByteArray.ext; simp
theorem ba_list (s : ByteArray) : (⟨s.data.toList.toArray⟩ : ByteArray) = s := by apply ByteArray.ext; simp

theorem held3 {P : Program} {f : FuncId} {args : Array Value} {w : World} {E : Ending} (h : Calls P f args w fun e w' => e = E ∧ Below w.heap.size w w') {p0 p1 p2 : Addr} {v0 v1 v2 : Value}
    (c0 : w.cell? p0 = some v0) (c1 : w.cell? p1 = some v1) (c2 : w.cell? p2 = some v2) :
    Calls P f args w fun e w' => e = E ∧ Below w.heap.size w w' ∧ w'.cell? p0 = some v0 ∧ w'.cell? p1 = some v1 ∧ w'.cell? p2 = some v2 :=
  h.mono fun e w' ⟨h1, h2⟩ => ⟨h1, h2, (h2.cell (block_lt_of_cell c0)).trans c0, (h2.cell (block_lt_of_cell c1)).trans c1, (h2.cell (block_lt_of_cell c2)).trans c2⟩
theorem list_upto (s : ByteArray) (i : Nat) : (s.extract 0 i).data.toList = s.data.toList.take i := by simp
theorem list_from (s : ByteArray) (i : Nat) : (s.extract i s.size).data.toList = s.data.toList.drop i := by
  rw [Lib.extract_data]; apply List.take_of_length_le; simp
theorem size_part (s : ByteArray) (i j n : Nat) (h : s.size ≤ n) : (s.extract i j).size ≤ n := by rw [ByteArray.size_extract]; omega
theorem below_drawn {B : Nat} {a w : World} (h : Below B a w) (n : Nat) : Below B a (w.drewN n) := ⟨h.os, h.tape, h.output, h.size, h.block⟩


def lowA (c : UInt8) : UInt8 := if 65 ≤ c ∧ c ≤ 90 then c + 32 else c
def smallL (l : List UInt8) : List UInt8 := l.map lowA
/-- the bytes of a string, as numbers -/
def zs (s : ByteArray) : List Int := s.data.toList.map fun c => (c.toNat : Int)
/-- row g holds the numbers xs, none of them frozen -/
def Row8 (w : World) (g : Nat) (xs : List Int) : Prop := ∀ i, i < xs.length → w.cell? ⟨g, i, none⟩ = some (.int .u8 (xs.getD i 0)) ∧ w.frozen? ⟨g, i, none⟩ = false
theorem Row8.set {w : World} {g : Nat} {xs : List Int} (h : Row8 w g xs) (k : Nat) (hk : k < xs.length) (y : Int) : Row8 (w.setCell ⟨g, k, none⟩ (.int .u8 y)) g (xs.set k y) := by
  intro i hi
  rw [List.length_set] at hi
  obtain ⟨h1, h2⟩ := h i hi
  rw [World.frozen?_setCell]
  refine ⟨?_, h2⟩
  by_cases hik : k = i
  · subst hik
    rw [World.cell?_setCell_same' _ _ _ (by rw [h1]; rfl)]
    simp [List.getD, List.getElem?_set_self hk]
  · rw [World.cell?_setCell_other _ _ _ _ (by simp), h1]
    simp [List.getD, List.getElem?_set_ne hik]

theorem check_yes {k wk d : Int} (h : rightDay k wk d = true) : Ending.returned (.int .i64 0) = .returned (.int .i64 (checkR k wk d)) := by rw [checkR, if_pos h]
theorem check_no {k wk d : Int} (h : ¬ rightDay k wk d = true) : Ending.returned (.int .i64 2) = .returned (.int .i64 (checkR k wk d)) := by rw [checkR, if_neg h]

set_option maxRecDepth 100000 in
set_option maxHeartbeats 1000000 in
theorem check_any (k wk d : Int) (w : World) (hK : Kinds w) :
    Calls Tryz.prog 85 #[.agg #[.int .i64 k, .int .i64 wk, .int .i64 d]] w fun e w' => e = .returned (.int .i64 (checkR k wk d)) ∧ Below w.heap.size w w' := by
  by_cases h1 : k < 1
  · have HR := Lib.hid (show checkR k wk d = 2 by rw [checkR, if_neg (by simp [rightDay]; omega)])
    clear hK
    go_enter Tryz.func85, Tryz.ntmps85
    go_wp2
    go_ret
    rw [HR.out]
    exact ⟨rfl, (Below.refl _ _).alloc (Nat.le_refl _) _⟩
  by_cases h4 : 4 < k
  · have HR := Lib.hid (show checkR k wk d = 2 by rw [checkR, if_neg (by simp [rightDay]; omega)])
    clear hK
    go_enter Tryz.func85, Tryz.ntmps85
    go_wp2
    go_ret
    rw [HR.out]
    exact ⟨rfl, (Below.refl _ _).alloc (Nat.le_refl _) _⟩
  have hk : k = 1 ∨ k = 2 ∨ k = 3 ∨ k = 4 := by omega
  clear h1 h4
  obtain ⟨w1, d1, w2, d2, w3, d3, w4, d4, f1, f2, f3, f4⟩ := hK
  rcases hk with rfl | rfl | rfl | rfl
  · clear w2 d2 w3 d3 w4 d4 f2 f3 f4
    have hlt := block_lt_of_cell w1
    go_enter Tryz.func85, Tryz.ntmps85
    go_wp2
    all_goals
      go_ret
      refine ⟨?_, ((Below.refl _ _).alloc (Nat.le_refl _) _).alloc (by simp) _⟩
      first
        | exact check_yes (by simp_all [rightDay]; try omega)
        | exact check_no (by simp_all [rightDay]; try omega)
  · clear w1 d1 w3 d3 w4 d4 f1 f3 f4
    have hlt := block_lt_of_cell w2
    go_enter Tryz.func85, Tryz.ntmps85
    go_wp2
    all_goals
      go_ret
      refine ⟨?_, ((Below.refl _ _).alloc (Nat.le_refl _) _).alloc (by simp) _⟩
      first
        | exact check_yes (by simp_all [rightDay]; try omega)
        | exact check_no (by simp_all [rightDay]; try omega)
  · clear w1 d1 w2 d2 w4 d4 f1 f2 f4
    have hlt := block_lt_of_cell w3
    go_enter Tryz.func85, Tryz.ntmps85
    go_wp2
    all_goals
      go_ret
      refine ⟨?_, ((Below.refl _ _).alloc (Nat.le_refl _) _).alloc (by simp) _⟩
      first
        | exact check_yes (by simp_all [rightDay]; try omega)
        | exact check_no (by simp_all [rightDay]; try omega)
  · clear w1 d1 w2 d2 w3 d3 f1 f2 f3
    have hlt := block_lt_of_cell w4
    go_enter Tryz.func85, Tryz.ntmps85
    go_wp2
    all_goals
      go_ret
      refine ⟨?_, ((Below.refl _ _).alloc (Nat.le_refl _) _).alloc (by simp) _⟩
      first
        | exact check_yes (by simp_all [rightDay]; try omega)
        | exact check_no (by simp_all [rightDay]; try omega)


open Go.RowKit Go.Shelf
attribute [local go_sem] Oper.semAt_some

/-- a list of words in memory, below n₀ -/
def Words (n₀ : Nat) (W : World) (sv : Value) (ws : List (List UInt8)) : Prop :=
  ∃ b cap, sv = .slice (some ⟨b, 0, none⟩) ws.length cap ∧ b < n₀ ∧ ∀ j l, ws[j]? = some l → W.cell? ⟨b, j, none⟩ = some (.string ⟨l.toArray⟩)
theorem Words.below {n₀ : Nat} {A B : World} {sv : Value} {ws : List (List UInt8)} (h : Words n₀ A sv ws) (hb : Below n₀ A B) : Words n₀ B sv ws := by
  obtain ⟨b, cap, e, hlt, hc⟩ := h
  exact ⟨b, cap, e, hlt, fun j l hl => (hb.cell (p := ⟨b, j, none⟩) hlt).trans (hc j l hl)⟩

def hits (s l : List UInt8) : Bool := !s.isEmpty && Lib.hasPrefix l s
def pairs (ws : List (List UInt8)) (k : Nat) : List (Nat × List UInt8) := (List.range k).map fun j => (j, ws[j]?.getD [])
def begTo (s : List UInt8) (ws : List (List UInt8)) (k : Nat) : List (Nat × List UInt8) := (pairs ws k).filter fun p => hits s p.2
/-- what a round keeps: all that lay below n₀, and the box of the string -/
def KpF (n₀ Bs : Nat) (A B : World) : Prop := Below n₀ A B ∧ ∀ v, A.cell? ⟨Bs, 0, none⟩ = some v → B.cell? ⟨Bs, 0, none⟩ = some v
theorem KpF.trans {n₀ Bs : Nat} {A B C : World} (h : KpF n₀ Bs A B) (k : KpF n₀ Bs B C) : KpF n₀ Bs A C := ⟨h.1.trans k.1, fun v hv => k.2 v (h.2 v hv)⟩

def signs : List UInt8 := [60, 62]
attribute [local go_sem] Oper.semAt_some

/-- what find answers, by what has been yielded -/
def findP (ps : List (Nat × List UInt8)) (s : List UInt8) : Nat × Bool :=
  match ps.find? (fun p => p.2 == s) with
  | some p => (p.1, true)
  | none => ((ps.getLast?.map (·.1)).getD 0, ps.length == 1)

def CellIs (W : World) (g : Nat) (v : Value) : Prop := W.cell? ⟨g, 0, none⟩ = some v ∧ W.frozen? ⟨g, 0, none⟩ = false
theorem CellIs.kept {W W' : World} {g : Nat} {v : Value} {row : Option Nat} (h : CellIs W g v) (hg : W.grownBy W' row) (hr : ∀ r, row = some r → ∃ o : Obj, W.heap[r]? = some o ∧ o.isCells = false) : CellIs W' g v :=
  ⟨cell_kept h.1 hg hr, (frozen_kept h.1 hg hr).trans h.2⟩
theorem CellIs.of_blk {W : World} {g : Nat} {t : TypeId} {v : Value} (h : Blk W g t #[v]) : CellIs W g v := ⟨h.cell_ (i := 0) rfl, h.frozen 0⟩
theorem CellIs.set_ {W : World} {g : Nat} {v : Value} (h : CellIs W g v) (u : Value) : CellIs (W.setCell ⟨g, 0, none⟩ u) g u :=
  ⟨World.cell?_setCell_same' _ _ _ (by rw [h.1]; rfl), by rw [World.frozen?_setCell]; exact h.2⟩
theorem CellIs.far {W : World} {g g' : Nat} {v : Value} (h : CellIs W g v) (hne : g' ≠ g) (u : Value) : CellIs (W.setCell ⟨g', 0, none⟩ u) g v :=
  ⟨(World.cell?_setCell_other _ _ _ _ (by simp)).trans h.1, by rw [World.frozen?_setCell]; exact h.2⟩
theorem CellIs.drew {W : World} {g : Nat} {v : Value} (h : CellIs W g v) : CellIs W.drew g v := h
def wordF (ws : List (List UInt8)) (s : List UInt8) : Nat × Bool := findP (begTo (smallL s) ws ws.length) (smallL s)
/-- the number of a word of a list whose first one has the number f, and the error -/
def wordR (ws : List (List UInt8)) (f : Int) (s : List UInt8) : Int × Int := if (wordF ws s).2 = true then (f + (wordF ws s).1, 0) else (0, 8)

/-- the weekday of a word, and the error -/
def weekR (s : List UInt8) : Int × Int := if (wordF weekL s).2 = true then ((wordF weekL s).1, 0) else (0, 8)
def lastL : List UInt8 := [108, 97, 115, 116]

def inv (a b c d : UInt8) (i : Nat) : Prop := Lib.equalFold ([a, b, c, d].drop i) (lastL.drop i) = Lib.equalFold [a, b, c, d] lastL

/-- the short word of a weekday -/
def shortL : List UInt8 → List UInt8
  | a :: b :: c :: _ => [Lib.upperB a, b, c]
  | l => l
def weekT (i : Int) : List UInt8 := if 0 ≤ i ∧ i < 7 then shortL (weekL.getD i.toNat []) else []

theorem upper_any (s : ByteArray) (w : World) (hs : s.size ≤ 140737488355328) (ha : ∀ (j : Nat) (b : UInt8), s.data.toList[j]? = some b → b.toNat < 128) :
    Calls Tryz.prog 126 #[.string s] w fun e w' => e = .returned (.string ⟨(Lib.toUpperA s.data.toList).toArray⟩) ∧ Below w.heap.size w w' :=
  Any.strings_ToUpper_ascii Tryz.lays158 Tryz.Builder_Extra_158 s w hs ha

theorem upper_one (a : UInt8) (ha : a.toNat < 128) (g i : Nat) (v : Value) (w : World) (hc : w.cell? ⟨g, i, none⟩ = some v) :
    Calls Tryz.prog 126 #[.string ⟨#[a]⟩] w fun e w' => e = .returned (.string ⟨#[Lib.upperB a]⟩) ∧ Below w.heap.size w w' ∧ w'.cell? ⟨g, i, none⟩ = some v :=
  (upper_any ⟨#[a]⟩ w (by show 1 ≤ _; decide) (fun j b h => by
    match j, h with
    | 0, h => cases h; exact ha
    | j + 1, h => simp at h)).mono fun e w' ⟨h1, h2⟩ => ⟨h1, h2, (h2.cell (block_lt_of_cell hc)).trans hc⟩

set_option maxRecDepth 100000 in
set_option maxHeartbeats 1000000 in
theorem short_in (g n cap i : Nat) (hi : i < n) (hn : n ≤ 100) (a b c : UInt8) (l : List UInt8) (ha : a.toNat < 128) (hl : l.length < 100) (w : World) (hc : w.cell? ⟨g, i, none⟩ = some (.string ⟨(a :: b :: c :: l).toArray⟩)) :
    Calls Tryz.prog 94 #[.slice (some ⟨g, 0, none⟩) n cap, .int .i64 (i : Int)] w fun e w' => e = .returned (.string ⟨#[Lib.upperB a, b, c]⟩) ∧ Below w.heap.size w w' := by
  obtain ⟨s, hs⟩ : ∃ s : ByteArray, s = ⟨(a :: b :: c :: l).toArray⟩ := ⟨_, rfl⟩
  have hsz : s.size = l.length + 3 := by rw [hs]; show (a :: b :: c :: l).length = _; simp
  have h01 : s.extract 0 1 = ⟨#[a]⟩ := by rw [hs]; apply ByteArray.ext; simp [ByteArray.data_extract]
  have h13 : s.extract 1 3 = ⟨#[b, c]⟩ := by rw [hs]; apply ByteArray.ext; simp [ByteArray.data_extract]
  rw [← hs] at hc
  have i0 : (0 : Int) ≤ (i : Int) := by omega
  have i7 : (i : Int) < (n : Int) := by omega
  have i8 : ¬ ((n : Int) ≤ (i : Int)) := by omega
  have z1 : (1 : Int) ≤ (s.size : Int) := by omega
  have z3 : (3 : Int) ≤ (s.size : Int) := by omega
  have h63 : ¬ (9223372036854775807 < 1 + (min 3 s.size - 1)) := by omega
  have HS := Lib.hid hsz
  have H01 := Lib.hid h01
  have H13 := Lib.hid h13
  clear hs hsz h01 h13
  go_enter Tryz.func94, Tryz.ntmps94
  go_wp2_with fail
  go_region_held3 (fun w' => w'.cell? ⟨g, i, none⟩ = some (.string s)) (go_keep) ((go_at_call 126; rw [H01.out]; refine (upper_one a ha g i (.string s) _ (by assumption)).mono ?_; rintro e w' ⟨rfl, hb2, hc2⟩))
  all_goals go_wp2
  all_goals go_ret
  all_goals exact ⟨by rw [H13.out]; rfl, (Below.refl w.heap.size w).drew.trans hb2⟩

set_option maxHeartbeats 400000 in
theorem short_out (g n cap : Nat) (i : Int) (hi : i < 0 ∨ (n : Int) ≤ i) (w : World) :
    Calls Tryz.prog 94 #[.slice (some ⟨g, 0, none⟩) n cap, .int .i64 i] w fun e w' => e = .returned (.string ⟨#[]⟩) ∧ w = w' := by
  by_cases h0 : i < 0
  · clear hi
    go_enter Tryz.func94, Tryz.ntmps94
    go_wp2
    go_ret
    exact ⟨rfl, rfl⟩
  · have h1 : (n : Int) ≤ i := by omega
    clear hi
    go_enter Tryz.func94, Tryz.ntmps94
    go_wp2
    go_ret
    exact ⟨rfl, rfl⟩

theorem weekL_at (i : Nat) (hi : i < 7) : ∃ a b c l, weekL[i]? = some (a :: b :: c :: l) ∧ a.toNat < 128 ∧ l.length < 100 ∧ weekT (i : Int) = [Lib.upperB a, b, c] := by
  rcases (by omega : i = 0 ∨ i = 1 ∨ i = 2 ∨ i = 3 ∨ i = 4 ∨ i = 5 ∨ i = 6) with rfl | rfl | rfl | rfl | rfl | rfl | rfl
  all_goals exact ⟨_, _, _, _, rfl, by decide, by decide, by decide⟩

set_option maxHeartbeats 400000 in
theorem weekText_any (i : Int) (w : World) (hW : Weeks w) :
    Calls Tryz.prog 86 #[.int .i64 i] w fun e w' => e = .returned (.string ⟨(weekT i).toArray⟩) ∧ Below w.heap.size w w' := by
  by_cases hi : 0 ≤ i ∧ i < 7
  · obtain ⟨n, rfl⟩ := Int.eq_ofNat_of_zero_le hi.1
    obtain ⟨a, b, c, l, hl, ha, hn, ht⟩ := weekL_at n (by omega)
    have HC := Lib.hid (short_in 2 7 7 n (by omega) (by decide) a b c l ha hn w (hW n _ hl))
    have HT := Lib.hid ht
    clear hi hl ht hW
    go_enter Tryz.func86, Tryz.ntmps86
    go_wp2_with fail
    refine HC.out.mono ?_
    rintro e w1 ⟨rfl, hb⟩
    go_wp2_with fail
    go_ret
    exact ⟨by rw [HT.out]; rfl, hb⟩
  · have HC := Lib.hid (short_out 2 7 7 i (by omega) w)
    have HT := Lib.hid (show weekT i = [] from if_neg hi)
    clear hi hW
    go_enter Tryz.func86, Tryz.ntmps86
    go_wp2_with fail
    refine HC.out.mono ?_
    rintro e w1 ⟨rfl, rfl⟩
    go_wp2_with fail
    go_ret
    exact ⟨by rw [HT.out]; rfl, Below.refl _ _⟩


/-- the number of a day of at most two digits: its value and the error -/
def numR (l : List UInt8) : Int × Int :=
  match l with
  | [a] => if 49 ≤ a.toNat ∧ a.toNat ≤ 57 then ((a.toNat : Int) - 48, 0) else (0, 5)
  | [a, b] => if 49 ≤ a.toNat ∧ a.toNat ≤ 57 ∧ 48 ≤ b.toNat ∧ b.toNat ≤ 57 then (if 10 * (a.toNat - 48) + (b.toNat - 48) ≤ 31 then (10 * ((a.toNat : Int) - 48) + ((b.toNat : Int) - 48), 0) else (0, 3)) else (0, 5)
  | _ => (0, 5)

/-- a day form and an error out of the answers of week and number -/
def joinR (k : Int) (a b : Int × Int) : (Int × Int × Int) × Int :=
  if a.2 = 0 then (if b.2 = 0 then ((k, a.1, b.1), 0) else ((0, 0, 0), b.2)) else ((0, 0, 0), a.2)
def comparedR (s : List UInt8) (i : Nat) : (Int × Int × Int) × Int := joinR (if s[i]? = some 60 then 4 else 3) (weekR (s.take i)) (numR (s.drop (i + 2)))
/-- what a string is read as, and the error -/
def parseR (s : List UInt8) : (Int × Int × Int) × Int :=
  if 0 ≤ Lib.indexAny s signs ∧ Lib.hasPrefix (s.drop ((Lib.indexAny s signs).toNat + 1)) [61] = true then comparedR s (Lib.indexAny s signs).toNat
  else if 4 ≤ s.length ∧ Lib.equalFold (s.take 4) lastL = true then joinR 2 (weekR (s.drop 4)) (0, 0)
  else joinR 1 (0, 0) (numR s)

def dayV (d : Int × Int × Int) : Value := .agg #[.int .i64 d.1, .int .i64 d.2.1, .int .i64 d.2.2]

/-- the string of a day form, and the error -/
def dayText (k wk d : Int) : List UInt8 :=
  if k = 1 then Lib.decDigits d.toNat else if k = 2 then [108, 97, 115, 116] ++ weekT wk else if k = 3 then weekT wk ++ [62, 61] ++ Lib.decDigits d.toNat else weekT wk ++ [60, 61] ++ Lib.decDigits d.toNat
def printR (k wk d : Int) : List UInt8 × Int := if rightDay k wk d = true then (dayText k wk d, 0) else ([], 2)

theorem right_bd {k wk d : Int} (h : rightDay k wk d = true) : 1 ≤ k ∧ k ≤ 4 ∧ 0 ≤ wk ∧ wk ≤ 6 ∧ 0 ≤ d ∧ d ≤ 31 := by
  simp [rightDay] at h
  omega

theorem digits_len (d : Int) (h0 : 0 ≤ d) (h1 : d ≤ 31) : (Lib.decDigits d.toNat).length ≤ 2 := by
  have h : ∀ n : Fin 32, (Lib.decDigits n.val).length ≤ 2 := by decide +kernel
  exact h ⟨d.toNat, by omega⟩
theorem weekT_len (i : Int) : (weekT i).length ≤ 3 := by
  by_cases hi : 0 ≤ i ∧ i < 7
  · obtain ⟨n, rfl⟩ := Int.eq_ofNat_of_zero_le hi.1
    obtain ⟨a, b, c, l, hl, ha, hn, ht⟩ := weekL_at n (by omega)
    rw [ht]; simp
  · rw [weekT, if_neg hi]; simp

theorem itoa_day (d : Int) (w : World) (h0 : 0 ≤ d) (h1 : d < 100) :
    Calls Tryz.prog 59 #[.int .i64 d] w fun e w' => e = .returned (.string ⟨(Lib.decDigits d.toNat).toArray⟩) ∧ w' = w := by
  obtain ⟨n, rfl⟩ := Int.eq_ofNat_of_zero_le h0
  exact Any.strconv_Itoa_small Tryz.lays171 n (by omega) w

set_option maxRecDepth 100000 in
set_option maxHeartbeats 1000000 in
theorem print_any (k wk d : Int) (w : World) (hK : Kinds w) (hW : Weeks w) :
    Calls Tryz.prog 52 #[.agg #[.int .i64 k, .int .i64 wk, .int .i64 d]] w fun e w' => e = .returned (.tuple #[.string ⟨(printR k wk d).1.toArray⟩, .int .i64 (printR k wk d).2]) ∧ Below w.heap.size w w' := by
  have hB0 : Below w.heap.size w (w.alloc (.cells #[.int .i64 k, .int .i64 wk, .int .i64 d] 43)) := (Below.refl _ _).alloc (Nat.le_refl _) _
  have HC := Lib.hid (check_any k wk d _ (hK.below hB0))
  have HW1 := Lib.hid (hW.below hB0)
  by_cases hr : rightDay k wk d = true
  · have HR := Lib.hid (show printR k wk d = (dayText k wk d, 0) from if_pos hr)
    have HK := Lib.hid (show checkR k wk d = 0 from if_pos hr)
    obtain ⟨hk1, hk4, hw0, hw6, hd0, hd31⟩ := right_bd hr
    clear hr hK hW
    go_enter Tryz.func52, Tryz.ntmps52
    go_wp2_with fail
    refine HC.out.mono ?_
    rintro e w1 ⟨rfl, hb1⟩
    rw [HK.out]
    have b0 : Blk w1 w.heap.size 43 #[.int .i64 k, .int .i64 wk, .int .i64 d] := (Blk.new' _ _ _ rfl).below hb1 (by simp)
    have c0 : w1.cell? ⟨w.heap.size, 0, none⟩ = some (.int .i64 k) := b0.cell_ rfl
    have c1 : w1.cell? ⟨w.heap.size, 1, none⟩ = some (.int .i64 wk) := b0.cell_ rfl
    have c2 : w1.cell? ⟨w.heap.size, 2, none⟩ = some (.int .i64 d) := b0.cell_ rfl
    have hW1 : Weeks w1 := HW1.out.below hb1
    have HB1 := Lib.hid (hB0.trans (hb1.mono (by simp)))
    clear b0 hb1 hB0
    have hdl := digits_len d hd0 hd31
    have hwl := weekT_len wk
    go_wp2_with fail
    go_region_held3 (fun w' => w'.cell? ⟨w.heap.size, 0, none⟩ = some (.int .i64 k) ∧ w'.cell? ⟨w.heap.size, 1, none⟩ = some (.int .i64 wk) ∧ w'.cell? ⟨w.heap.size, 2, none⟩ = some (.int .i64 d)) (go_keep)
      (first | ((go_at_call 59; refine (itoa_day d _ hd0 (by omega)).mono ?_; rintro e w2 ⟨rfl, rfl⟩)) | ((go_at_call 86; refine (held3 (weekText_any wk _ (by exact hW1)) (by exact c0) (by exact c1) (by exact c2)).mono ?_; rintro e w2 ⟨rfl, hb2, e0, e1, e2⟩)))
    have hB := Lib.hid (HB1.out.trans ((Below.refl _ _).drew.trans hb2 |>.mono HB1.out.size))
    clear hb2 hW1 c0 c1 c2 e1 e2 HB1 HC HW1
    generalize hE1 : Lib.decDigits d.toNat = dl at *
    generalize hE2 : weekT wk = wl at *
    have HE1 := Lib.hid hE1
    have HE2 := Lib.hid hE2
    clear hE1 hE2
    rcases (by omega : k = 1 ∨ k = 2 ∨ k = 3 ∨ k = 4) with rfl | rfl | rfl | rfl
    all_goals
      go_wp2
      go_ret2
      refine ⟨?_, hB.out⟩
      rw [HR.out]
      simp [dayText, HE1.out, HE2.out, ba_append]
  · have HR := Lib.hid (show printR k wk d = ([], 2) from if_neg hr)
    have HK := Lib.hid (show checkR k wk d = 2 from if_neg hr)
    clear hr hK hW
    go_enter Tryz.func52, Tryz.ntmps52
    go_wp2_with fail
    refine HC.out.mono ?_
    rintro e w1 ⟨rfl, hb1⟩
    rw [HK.out]
    have HB1 := Lib.hid (hB0.trans (hb1.mono (by simp)))
    clear hb1 hB0
    go_wp2_with fail
    go_ret2
    exact ⟨by rw [HR.out]; rfl, HB1.out⟩
end Go.Proofs.YtmcgbjjcpcgcfaaGreatDoor
