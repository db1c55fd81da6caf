/-
  ruleline.Parse: what the call returns.
-/
import Derived.Test.YtgfnnmdngckmmaaGreatDoorRuleF
import Derived.Outline
set_option linter.unusedVariables false
namespace Go.Proofs.YtgfnnmdngckmmaaGreatDoor
open Go.RowKit

def firstE : List Int → Int
  | [] => 0
  | e :: r => if e = 0 then firstE r else e
theorem firstE_at : ∀ (es : List Int) (k : Nat) (e : Int), (∀ j, j < k → es[j]? = some 0) → es[k]? = some e → e ≠ 0 → firstE es = e
  | [], k, e, _, h, _ => by simp at h
  | a :: es, 0, e, _, h, he => by
    have h : a = e := by simpa using h
    subst h
    exact if_neg he
  | a :: es, k + 1, e, h0, h, he => by
    have ha : a = 0 := by have := h0 0 (by omega); simpa using this
    rw [firstE, if_pos ha]
    exact firstE_at es k e (fun j hj => by have := h0 (j + 1) (by omega); simpa using this) (by simpa using h) he
theorem firstE_all : ∀ (es : List Int) (n : Nat), (∀ j, j < n → es[j]? = some 0) → es.length = n → firstE es = 0
  | [], _, _, _ => rfl
  | a :: es, n, h, hl => by
    have ha : a = 0 := by have := h 0 (by simp at hl; omega); simpa using this
    rw [firstE, if_pos ha]
    exact firstE_all es (n - 1) (fun j hj => by have := h (j + 1) (by omega); simpa using this) (by simp at hl; omega)
def errsR (a0 a1 a2 a4 a5 a6 a7 a8 : List UInt8) : List Int := [(setR a0).2, (yearR a1).2, (untilR a2 (yearR a1).1).2, 0, (wordR monthL 1 a4).2, (parseR a5).2, (clockR a6).2, (offParseR a7).2, (letterR a8).2]
/-- the rule behind k fields -/
def uptoR (k : Nat) (a0 a1 a2 a4 a5 a6 a7 a8 : List UInt8) : RuleP :=
  ⟨if 0 < k then (setR a0).1 else [], if 1 < k then (yearR a1).1 else 0, if 2 < k then (untilR a2 (yearR a1).1).1 else 0, if 4 < k then (wordR monthL 1 a4).1 else 0, if 5 < k then (parseR a5).1 else (0, 0, 0), if 6 < k then (clockR a6).1 else (0, 0), if 7 < k then (offParseR a7).1 else 0, if 8 < k then (letterR a8).1 else []⟩
/-- the rule of the fields, and the error -/
def ruleR (l : List (List UInt8)) : RuleP × Int := match l with
  | [a0, a1, a2, a3, a4, a5, a6, a7, a8] => if a3 = [45] then (if firstE (errsR a0 a1 a2 a4 a5 a6 a7 a8) = 0 then (uptoR 9 a0 a1 a2 a4 a5 a6 a7 a8, 0) else (RuleP.none, firstE (errsR a0 a1 a2 a4 a5 a6 a7 a8))) else (RuleP.none, 5)
  | _ => (RuleP.none, 5)
def ruleV (r : RuleP) : Value := .agg r.cells
theorem results_cell_tmp {P : Program} {fn : Func} {p t : Tmp} {ty : TypeId} (h : fn.results = #[.cell p ty, .tmp t]) (tmps : Array Value) (w : World) (g : Nat) (tt : TypeId) (cs : Array Value) (d : TypeDesc) (v : Value)
    (hp : tmps.getD p undef = .pointer (some ⟨g, 0, none⟩)) (hv : tmps.getD t undef = v) (hg : Blk w g tt cs)
    (hu : P.underlying ty = some d) (hd : (match d with | .struct _ | .array _ _ => true | _ => false) = true) (hi : (P.info? ty).map (·.size) = some cs.size) :
    (results fn tmps).run P w = .ok (.tuple #[.agg cs, v]) w := by
  have hp' : tmps[p]?.getD undef = .pointer (some ⟨g, 0, none⟩) := by simpa using hp
  have hv' : tmps[t]?.getD undef = v := by simpa using hv
  simp [results, h, hp', hv', asAddr, run_loadVar_row w g tt ty cs (0, 0) d hg hu hd hi]
theorem infoRule : (Tryz.prog.info? 29).map (·.size) = some 11 := by kernel_rfl
theorem RuleP.size (r : RuleP) : r.cells.size = 11 := rfl
theorem RuleP.one (r : RuleP) : r.cells.all (·.oneCell') = true := by simp [RuleP.cells, Value.oneCell']
theorem infoR (r : RuleP) : (Tryz.prog.info? 29).map (·.size) = some r.cells.size := infoRule

set_option maxRecDepth 100000 in
set_option maxHeartbeats 1000000 in
theorem ruleParse_n (A : Option Addr) (n c : Nat) (w : World) (hn : n ≠ 9) :
    Calls Tryz.prog 11 #[.slice A n c] w fun e w' => e = .returned (.tuple #[ruleV RuleP.none, .int .i64 5]) ∧ Below w.heap.size w w' := by
  have hn9 : ((n : Int) != 9) = true := by rw [bne_iff_ne]; omega
  clear hn
  go_enter Tryz.func11, Tryz.ntmps11
  go_wp2_with fail
  refine bodyPost_ret (by simp [results, Tryz.results11, go_sem]; rfl) rfl ⟨rfl, by go_grown⟩

set_option maxRecDepth 100000 in
set_option maxHeartbeats 2000000 in
theorem ruleParse_9 (bl ol c : Nat) (s0 s1 s2 s3 s4 s5 s6 s7 s8 : ByteArray) (w : World) (hT : RTabs w) (hbl : bl < w.heap.size)
    (h0 : s0.size ≤ 1048576) (h1 : s1.size ≤ 1048576) (h2 : s2.size ≤ 1048576) (h4 : s4.size ≤ 1048576) (h5 : s5.size ≤ 1048576) (h6 : s6.size ≤ 1048576) (h7 : s7.size ≤ 1048576) (h8 : s8.size ≤ 1048576)
    (hc : ∀ j s, [s0, s1, s2, s3, s4, s5, s6, s7, s8][j]? = some s → w.cell? ⟨bl, ol + j, none⟩ = some (.string s)) (h3 : s3.data.toList = [45]) :
    Calls Tryz.prog 11 #[.slice (some ⟨bl, ol, none⟩) 9 c] w fun e w' => e = .returned (.tuple #[ruleV (ruleR ([s0, s1, s2, s3, s4, s5, s6, s7, s8].map fun s => s.data.toList)).1, .int .i64 (ruleR ([s0, s1, s2, s3, s4, s5, s6, s7, s8].map fun s => s.data.toList)).2]) ∧ Below w.heap.size w w' := by
  obtain ⟨R, hR⟩ : ∃ R, ruleR ([s0, s1, s2, s3, s4, s5, s6, s7, s8].map fun s => s.data.toList) = R := ⟨_, rfl⟩
  rw [hR]
  have HR := Lib.hid (show R = if firstE (errsR s0.data.toList s1.data.toList s2.data.toList s4.data.toList s5.data.toList s6.data.toList s7.data.toList s8.data.toList) = 0 then (uptoR 9 s0.data.toList s1.data.toList s2.data.toList s4.data.toList s5.data.toList s6.data.toList s7.data.toList s8.data.toList, 0) else (RuleP.none, firstE (errsR s0.data.toList s1.data.toList s2.data.toList s4.data.toList s5.data.toList s6.data.toList s7.data.toList s8.data.toList)) from hR.symm.trans (if_pos h3))
  obtain rfl := str_of h3
  have HC := Lib.hid hc
  have l3 : w.cell? ⟨bl, ol + 3, none⟩ = some (.string ⟨#[45]⟩) := hc 3 _ rfl
  clear hR h3 hc
  go_enter Tryz.func11, Tryz.ntmps11
  go_wp2_with fail
  refine (fields_any _).mono ?_
  rintro e w1 ⟨rfl, hw1⟩
  have bz : Blk w1 w.heap.size 29 RuleP.none.cells := hw1 ▸ ((Blk.new' _ _ _ rfl).alloc _).alloc _
  have br : Blk w1 (w.heap.size + 1) 29 (uptoR 0 s0.data.toList s1.data.toList s2.data.toList s4.data.toList s5.data.toList s6.data.toList s7.data.toList s8.data.toList).cells := hw1 ▸ (Blk.new' _ _ _ (by simp)).alloc _
  have bf : Blk w1 (w.heap.size + 1 + 1) 56 fieldsA := hw1 ▸ Blk.new' _ _ _ (by simp)
  have HW := Lib.hid (And.intro bz (And.intro br (And.intro bf (show Below w.heap.size w w1 from hw1 ▸ (((Below.refl _ _).alloc (Nat.le_refl _) _).alloc (by simp) _).alloc (by simp; omega) _))))
  clear bz br bf hw1
  go_wp2_with fail
  go_loopw [20] (fun i wr => ∃ k : Nat, k ≤ 9 ∧ i = .int .i64 (k : Int) ∧ Blk wr w.heap.size 29 RuleP.none.cells ∧ Blk wr (w.heap.size + 1) 29 (uptoR k s0.data.toList s1.data.toList s2.data.toList s4.data.toList s5.data.toList s6.data.toList s7.data.toList s8.data.toList).cells ∧ Blk wr (w.heap.size + 1 + 1) 56 fieldsA ∧ Below w.heap.size w wr ∧ Aside (∀ j, j < k → (errsR s0.data.toList s1.data.toList s2.data.toList s4.data.toList s5.data.toList s6.data.toList s7.data.toList s8.data.toList)[j]? = some 0)) (fun i _ => 9 - (intOf i).toNat)
  case atStart => exact ⟨0, by omega, rfl, HW.out.1, HW.out.2.1, HW.out.2.2.1, HW.out.2.2.2, fun j hj => absurd hj (by omega)⟩
  case round =>
    obtain ⟨k, hk, rfl, bz, br, bf, hb, hes⟩ := hrel
    have HE := Lib.hid hes.out
    have HZ := Lib.hid (And.intro bz (And.intro bf hb))
    have hlt := bf.lt
    clear hes HW l3
    by_cases hk9 : k = 9
    · subst hk9
      have HF := Lib.hid (show R = (uptoR 9 s0.data.toList s1.data.toList s2.data.toList s4.data.toList s5.data.toList s6.data.toList s7.data.toList s8.data.toList, 0) by rw [HR.out, if_pos (firstE_all _ 9 HE.out rfl)])
      obtain ⟨C, hC⟩ : ∃ C, (uptoR 9 s0.data.toList s1.data.toList s2.data.toList s4.data.toList s5.data.toList s6.data.toList s7.data.toList s8.data.toList).cells = C := ⟨_, rfl⟩
      rw [hC] at br
      have hCi : (Tryz.prog.info? 29).map (·.size) = some C.size := hC ▸ infoR _
      have hC1 : C.all (·.oneCell') = true := hC ▸ RuleP.one _
      have hCs : C.size = 11 := hC ▸ rfl
      have HBR := Lib.hid br
      have HCC := Lib.hid (And.intro hCi (And.intro hC1 hCs))
      have HC9 := Lib.hid hC
      have Hth := Lib.hid (show wr.there w.heap.size 0 C.size from HZ.out.1.there (by rw [hCs]; exact Nat.le_refl _))
      clear bz br bf hb HR HE HC hCi hC1 hCs hC
      go_wp2_with (first
        | (refine wpList_load_row rfl 29 (.tmp 4) rfl (w.heap.size + 1) rfl 29 C (0, 0) _ HBR.out Tryz.underlying29 rfl HCC.out.1 ?_)
        | (refine wpList_store_mid rfl 29 (.tmp 2) (.tmp 36) rfl w.heap.size 0 C rfl rfl Hth.out HCC.out.1 HCC.out.2.1 ?_))
      refine bodyPost_ret (results_cell_tmp rfl _ _ w.heap.size 29 C _ _ rfl rfl (HZ.out.1.setAll C HCC.out.2.2) Tryz.underlying29 rfl HCC.out.1) rfl ⟨?_, below_sets (Nat.le_refl _) _ _ _ HZ.out.2.2⟩
      rw [HF.out, ruleV, HC9.out]
      rfl
    have hT1 : RTabs wr := hT.below hb
    have HT1 := Lib.hid hT1
    have HBR := Lib.hid br
    clear br hT1 bz
    rcases (by omega : k = 0 ∨ k = 1 ∨ k = 2 ∨ k = 3 ∨ k = 4 ∨ k = 5 ∨ k = 6 ∨ k = 7 ∨ k = 8) with rfl | rfl | rfl | rfl | rfl | rfl | rfl | rfl | rfl
    · have cl : wr.cell? ⟨bl, ol, none⟩ = some (.string s0) := (hb.cell (p := ⟨bl, ol + 0, none⟩) hbl).trans (HC.out 0 _ rfl)
      have cf : wr.cell? ⟨w.heap.size + 1 + 1, 0, none⟩ = some (.func (.func 46) #[] #[]) := bf.cell_ rfl
      clear bf hb
      have HF := Lib.hid (show Calls Tryz.prog 46 #[.pointer (some ⟨w.heap.size + 1, 0, none⟩), .string s0] wr fun e w' => e = .returned (.int .i64 (setR s0.data.toList).2) ∧ Blk w' (w.heap.size + 1) 29 (uptoR 1 s0.data.toList s1.data.toList s2.data.toList s4.data.toList s5.data.toList s6.data.toList s7.data.toList s8.data.toList).cells ∧ But (w.heap.size + 1) wr w' from field1_any s0 (w.heap.size + 1) _ wr h0 HT1.out HBR.out)
      have HEk := Lib.hid (show (errsR s0.data.toList s1.data.toList s2.data.toList s4.data.toList s5.data.toList s6.data.toList s7.data.toList s8.data.toList)[0]? = some (setR s0.data.toList).2 from rfl)
      generalize (setR s0.data.toList).2 = er at *
      go_wp2_with fail
      refine HF.out.mono ?_
      rintro e w2 ⟨rfl, br2, hbut⟩
      have HZ2 := Lib.hid (And.intro (HZ.out.1.but hbut (by omega)) (And.intro br2 (And.intro (HZ.out.2.1.but hbut (by omega)) (hbut.below HZ.out.2.2 (by omega) (Nat.le_refl _)))))
      clear br2 hbut HZ HBR HF
      by_cases her : er = 0
      · subst her
        go_wp2_with fail
        go_roundw
        case rel =>
          refine ⟨1, by omega, rfl, HZ2.out.1, HZ2.out.2.1, HZ2.out.2.2.1, HZ2.out.2.2.2, fun j hj => ?_⟩
          rcases Nat.lt_or_ge j 0 with h | h
          · exact HE.out j h
          · obtain rfl : j = 0 := by omega
            exact HEk.out
        case measure => simp [intOf]
      · have herb : (er != 0) = true := by rw [bne_iff_ne]; exact her
        have HFin := Lib.hid (show R = (RuleP.none, er) by rw [HR.out, firstE_at _ 0 er HE.out HEk.out her, if_neg her])
        clear her HR HE HEk
        have z0 : w2.cell? ⟨w.heap.size, 0, none⟩ = some (.string ⟨#[]⟩) := HZ2.out.1.cell_ rfl
        have y0 := HZ2.out.1.frozen 0
        have z1 : w2.cell? ⟨w.heap.size, 1, none⟩ = some (.int .i64 0) := HZ2.out.1.cell_ rfl
        have y1 := HZ2.out.1.frozen 1
        have z2 : w2.cell? ⟨w.heap.size, 2, none⟩ = some (.int .i64 0) := HZ2.out.1.cell_ rfl
        have y2 := HZ2.out.1.frozen 2
        have z3 : w2.cell? ⟨w.heap.size, 3, none⟩ = some (.int .i64 0) := HZ2.out.1.cell_ rfl
        have y3 := HZ2.out.1.frozen 3
        have z4 : w2.cell? ⟨w.heap.size, 4, none⟩ = some (.int .i64 0) := HZ2.out.1.cell_ rfl
        have y4 := HZ2.out.1.frozen 4
        have z5 : w2.cell? ⟨w.heap.size, 5, none⟩ = some (.int .i64 0) := HZ2.out.1.cell_ rfl
        have y5 := HZ2.out.1.frozen 5
        have z6 : w2.cell? ⟨w.heap.size, 6, none⟩ = some (.int .i64 0) := HZ2.out.1.cell_ rfl
        have y6 := HZ2.out.1.frozen 6
        have z7 : w2.cell? ⟨w.heap.size, 7, none⟩ = some (.int .i64 0) := HZ2.out.1.cell_ rfl
        have y7 := HZ2.out.1.frozen 7
        have z8 : w2.cell? ⟨w.heap.size, 8, none⟩ = some (.int .i64 0) := HZ2.out.1.cell_ rfl
        have y8 := HZ2.out.1.frozen 8
        have z9 : w2.cell? ⟨w.heap.size, 9, none⟩ = some (.int .i64 0) := HZ2.out.1.cell_ rfl
        have y9 := HZ2.out.1.frozen 9
        have z10 : w2.cell? ⟨w.heap.size, 10, none⟩ = some (.string ⟨#[]⟩) := HZ2.out.1.cell_ rfl
        have y10 := HZ2.out.1.frozen 10
        go_wp2_with fail
        refine bodyPost_ret (by simp [results, Tryz.results11, go_sem, z0, z1, z2, z3, z4, z5, z6, z7, z8, z9, z10]; rfl) rfl ⟨?_, ?_⟩
        · rw [HFin.out]; rfl
        · have hBv := HZ2.out.2.2.2; go_grown
    · have cl : wr.cell? ⟨bl, ol + 1, none⟩ = some (.string s1) := (hb.cell (p := ⟨bl, ol + 1, none⟩) hbl).trans (HC.out 1 _ rfl)
      have cf : wr.cell? ⟨w.heap.size + 1 + 1, 1, none⟩ = some (.func (.func 48) #[] #[]) := bf.cell_ rfl
      clear bf hb
      have HF := Lib.hid (show Calls Tryz.prog 48 #[.pointer (some ⟨w.heap.size + 1, 0, none⟩), .string s1] wr fun e w' => e = .returned (.int .i64 (yearR s1.data.toList).2) ∧ Blk w' (w.heap.size + 1) 29 (uptoR 2 s0.data.toList s1.data.toList s2.data.toList s4.data.toList s5.data.toList s6.data.toList s7.data.toList s8.data.toList).cells ∧ But (w.heap.size + 1) wr w' from field2_any s1 (w.heap.size + 1) _ wr h1 HT1.out HBR.out)
      have HEk := Lib.hid (show (errsR s0.data.toList s1.data.toList s2.data.toList s4.data.toList s5.data.toList s6.data.toList s7.data.toList s8.data.toList)[1]? = some (yearR s1.data.toList).2 from rfl)
      generalize (yearR s1.data.toList).2 = er at *
      go_wp2_with fail
      refine HF.out.mono ?_
      rintro e w2 ⟨rfl, br2, hbut⟩
      have HZ2 := Lib.hid (And.intro (HZ.out.1.but hbut (by omega)) (And.intro br2 (And.intro (HZ.out.2.1.but hbut (by omega)) (hbut.below HZ.out.2.2 (by omega) (Nat.le_refl _)))))
      clear br2 hbut HZ HBR HF
      by_cases her : er = 0
      · subst her
        go_wp2_with fail
        go_roundw
        case rel =>
          refine ⟨2, by omega, rfl, HZ2.out.1, HZ2.out.2.1, HZ2.out.2.2.1, HZ2.out.2.2.2, fun j hj => ?_⟩
          rcases Nat.lt_or_ge j 1 with h | h
          · exact HE.out j h
          · obtain rfl : j = 1 := by omega
            exact HEk.out
        case measure => simp [intOf]
      · have herb : (er != 0) = true := by rw [bne_iff_ne]; exact her
        have HFin := Lib.hid (show R = (RuleP.none, er) by rw [HR.out, firstE_at _ 1 er HE.out HEk.out her, if_neg her])
        clear her HR HE HEk
        have z0 : w2.cell? ⟨w.heap.size, 0, none⟩ = some (.string ⟨#[]⟩) := HZ2.out.1.cell_ rfl
        have y0 := HZ2.out.1.frozen 0
        have z1 : w2.cell? ⟨w.heap.size, 1, none⟩ = some (.int .i64 0) := HZ2.out.1.cell_ rfl
        have y1 := HZ2.out.1.frozen 1
        have z2 : w2.cell? ⟨w.heap.size, 2, none⟩ = some (.int .i64 0) := HZ2.out.1.cell_ rfl
        have y2 := HZ2.out.1.frozen 2
        have z3 : w2.cell? ⟨w.heap.size, 3, none⟩ = some (.int .i64 0) := HZ2.out.1.cell_ rfl
        have y3 := HZ2.out.1.frozen 3
        have z4 : w2.cell? ⟨w.heap.size, 4, none⟩ = some (.int .i64 0) := HZ2.out.1.cell_ rfl
        have y4 := HZ2.out.1.frozen 4
        have z5 : w2.cell? ⟨w.heap.size, 5, none⟩ = some (.int .i64 0) := HZ2.out.1.cell_ rfl
        have y5 := HZ2.out.1.frozen 5
        have z6 : w2.cell? ⟨w.heap.size, 6, none⟩ = some (.int .i64 0) := HZ2.out.1.cell_ rfl
        have y6 := HZ2.out.1.frozen 6
        have z7 : w2.cell? ⟨w.heap.size, 7, none⟩ = some (.int .i64 0) := HZ2.out.1.cell_ rfl
        have y7 := HZ2.out.1.frozen 7
        have z8 : w2.cell? ⟨w.heap.size, 8, none⟩ = some (.int .i64 0) := HZ2.out.1.cell_ rfl
        have y8 := HZ2.out.1.frozen 8
        have z9 : w2.cell? ⟨w.heap.size, 9, none⟩ = some (.int .i64 0) := HZ2.out.1.cell_ rfl
        have y9 := HZ2.out.1.frozen 9
        have z10 : w2.cell? ⟨w.heap.size, 10, none⟩ = some (.string ⟨#[]⟩) := HZ2.out.1.cell_ rfl
        have y10 := HZ2.out.1.frozen 10
        go_wp2_with fail
        refine bodyPost_ret (by simp [results, Tryz.results11, go_sem, z0, z1, z2, z3, z4, z5, z6, z7, z8, z9, z10]; rfl) rfl ⟨?_, ?_⟩
        · rw [HFin.out]; rfl
        · have hBv := HZ2.out.2.2.2; go_grown
    · have cl : wr.cell? ⟨bl, ol + 2, none⟩ = some (.string s2) := (hb.cell (p := ⟨bl, ol + 2, none⟩) hbl).trans (HC.out 2 _ rfl)
      have cf : wr.cell? ⟨w.heap.size + 1 + 1, 2, none⟩ = some (.func (.func 50) #[] #[]) := bf.cell_ rfl
      clear bf hb
      have HF := Lib.hid (show Calls Tryz.prog 50 #[.pointer (some ⟨w.heap.size + 1, 0, none⟩), .string s2] wr fun e w' => e = .returned (.int .i64 (untilR s2.data.toList (yearR s1.data.toList).1).2) ∧ Blk w' (w.heap.size + 1) 29 (uptoR 3 s0.data.toList s1.data.toList s2.data.toList s4.data.toList s5.data.toList s6.data.toList s7.data.toList s8.data.toList).cells ∧ But (w.heap.size + 1) wr w' from field3_any s2 (w.heap.size + 1) _ wr h2 HT1.out HBR.out)
      have HEk := Lib.hid (show (errsR s0.data.toList s1.data.toList s2.data.toList s4.data.toList s5.data.toList s6.data.toList s7.data.toList s8.data.toList)[2]? = some (untilR s2.data.toList (yearR s1.data.toList).1).2 from rfl)
      generalize (untilR s2.data.toList (yearR s1.data.toList).1).2 = er at *
      go_wp2_with fail
      refine HF.out.mono ?_
      rintro e w2 ⟨rfl, br2, hbut⟩
      have HZ2 := Lib.hid (And.intro (HZ.out.1.but hbut (by omega)) (And.intro br2 (And.intro (HZ.out.2.1.but hbut (by omega)) (hbut.below HZ.out.2.2 (by omega) (Nat.le_refl _)))))
      clear br2 hbut HZ HBR HF
      by_cases her : er = 0
      · subst her
        go_wp2_with fail
        go_roundw
        case rel =>
          refine ⟨3, by omega, rfl, HZ2.out.1, HZ2.out.2.1, HZ2.out.2.2.1, HZ2.out.2.2.2, fun j hj => ?_⟩
          rcases Nat.lt_or_ge j 2 with h | h
          · exact HE.out j h
          · obtain rfl : j = 2 := by omega
            exact HEk.out
        case measure => simp [intOf]
      · have herb : (er != 0) = true := by rw [bne_iff_ne]; exact her
        have HFin := Lib.hid (show R = (RuleP.none, er) by rw [HR.out, firstE_at _ 2 er HE.out HEk.out her, if_neg her])
        clear her HR HE HEk
        have z0 : w2.cell? ⟨w.heap.size, 0, none⟩ = some (.string ⟨#[]⟩) := HZ2.out.1.cell_ rfl
        have y0 := HZ2.out.1.frozen 0
        have z1 : w2.cell? ⟨w.heap.size, 1, none⟩ = some (.int .i64 0) := HZ2.out.1.cell_ rfl
        have y1 := HZ2.out.1.frozen 1
        have z2 : w2.cell? ⟨w.heap.size, 2, none⟩ = some (.int .i64 0) := HZ2.out.1.cell_ rfl
        have y2 := HZ2.out.1.frozen 2
        have z3 : w2.cell? ⟨w.heap.size, 3, none⟩ = some (.int .i64 0) := HZ2.out.1.cell_ rfl
        have y3 := HZ2.out.1.frozen 3
        have z4 : w2.cell? ⟨w.heap.size, 4, none⟩ = some (.int .i64 0) := HZ2.out.1.cell_ rfl
        have y4 := HZ2.out.1.frozen 4
        have z5 : w2.cell? ⟨w.heap.size, 5, none⟩ = some (.int .i64 0) := HZ2.out.1.cell_ rfl
        have y5 := HZ2.out.1.frozen 5
        have z6 : w2.cell? ⟨w.heap.size, 6, none⟩ = some (.int .i64 0) := HZ2.out.1.cell_ rfl
        have y6 := HZ2.out.1.frozen 6
        have z7 : w2.cell? ⟨w.heap.size, 7, none⟩ = some (.int .i64 0) := HZ2.out.1.cell_ rfl
        have y7 := HZ2.out.1.frozen 7
        have z8 : w2.cell? ⟨w.heap.size, 8, none⟩ = some (.int .i64 0) := HZ2.out.1.cell_ rfl
        have y8 := HZ2.out.1.frozen 8
        have z9 : w2.cell? ⟨w.heap.size, 9, none⟩ = some (.int .i64 0) := HZ2.out.1.cell_ rfl
        have y9 := HZ2.out.1.frozen 9
        have z10 : w2.cell? ⟨w.heap.size, 10, none⟩ = some (.string ⟨#[]⟩) := HZ2.out.1.cell_ rfl
        have y10 := HZ2.out.1.frozen 10
        go_wp2_with fail
        refine bodyPost_ret (by simp [results, Tryz.results11, go_sem, z0, z1, z2, z3, z4, z5, z6, z7, z8, z9, z10]; rfl) rfl ⟨?_, ?_⟩
        · rw [HFin.out]; rfl
        · have hBv := HZ2.out.2.2.2; go_grown
    · have cl : wr.cell? ⟨bl, ol + 3, none⟩ = some (.string ⟨#[45]⟩) := (hb.cell (p := ⟨bl, ol + 3, none⟩) hbl).trans (HC.out 3 _ rfl)
      have cf : wr.cell? ⟨w.heap.size + 1 + 1, 3, none⟩ = some (.func (.func 52) #[] #[]) := bf.cell_ rfl
      clear bf hb
      go_wp2_with fail
      refine (skip_any _ _ _).mono ?_
      rintro e w2 ⟨rfl, rfl⟩
      go_wp2_with fail
      go_roundw
      case rel =>
        refine ⟨4, by omega, rfl, HZ.out.1, HBR.out, HZ.out.2.1, HZ.out.2.2, fun j hj => ?_⟩
        rcases Nat.lt_or_ge j 3 with h | h
        · exact HE.out j h
        · obtain rfl : j = 3 := by omega
          rfl
      case measure => simp [intOf]
    · have cl : wr.cell? ⟨bl, ol + 4, none⟩ = some (.string s4) := (hb.cell (p := ⟨bl, ol + 4, none⟩) hbl).trans (HC.out 4 _ rfl)
      have cf : wr.cell? ⟨w.heap.size + 1 + 1, 4, none⟩ = some (.func (.func 53) #[] #[]) := bf.cell_ rfl
      clear bf hb
      have HF := Lib.hid (show Calls Tryz.prog 53 #[.pointer (some ⟨w.heap.size + 1, 0, none⟩), .string s4] wr fun e w' => e = .returned (.int .i64 (wordR monthL 1 s4.data.toList).2) ∧ Blk w' (w.heap.size + 1) 29 (uptoR 5 s0.data.toList s1.data.toList s2.data.toList s4.data.toList s5.data.toList s6.data.toList s7.data.toList s8.data.toList).cells ∧ But (w.heap.size + 1) wr w' from field4_any s4 (w.heap.size + 1) _ wr h4 HT1.out HBR.out)
      have HEk := Lib.hid (show (errsR s0.data.toList s1.data.toList s2.data.toList s4.data.toList s5.data.toList s6.data.toList s7.data.toList s8.data.toList)[4]? = some (wordR monthL 1 s4.data.toList).2 from rfl)
      generalize (wordR monthL 1 s4.data.toList).2 = er at *
      go_wp2_with fail
      refine HF.out.mono ?_
      rintro e w2 ⟨rfl, br2, hbut⟩
      have HZ2 := Lib.hid (And.intro (HZ.out.1.but hbut (by omega)) (And.intro br2 (And.intro (HZ.out.2.1.but hbut (by omega)) (hbut.below HZ.out.2.2 (by omega) (Nat.le_refl _)))))
      clear br2 hbut HZ HBR HF
      by_cases her : er = 0
      · subst her
        go_wp2_with fail
        go_roundw
        case rel =>
          refine ⟨5, by omega, rfl, HZ2.out.1, HZ2.out.2.1, HZ2.out.2.2.1, HZ2.out.2.2.2, fun j hj => ?_⟩
          rcases Nat.lt_or_ge j 4 with h | h
          · exact HE.out j h
          · obtain rfl : j = 4 := by omega
            exact HEk.out
        case measure => simp [intOf]
      · have herb : (er != 0) = true := by rw [bne_iff_ne]; exact her
        have HFin := Lib.hid (show R = (RuleP.none, er) by rw [HR.out, firstE_at _ 4 er HE.out HEk.out her, if_neg her])
        clear her HR HE HEk
        have z0 : w2.cell? ⟨w.heap.size, 0, none⟩ = some (.string ⟨#[]⟩) := HZ2.out.1.cell_ rfl
        have y0 := HZ2.out.1.frozen 0
        have z1 : w2.cell? ⟨w.heap.size, 1, none⟩ = some (.int .i64 0) := HZ2.out.1.cell_ rfl
        have y1 := HZ2.out.1.frozen 1
        have z2 : w2.cell? ⟨w.heap.size, 2, none⟩ = some (.int .i64 0) := HZ2.out.1.cell_ rfl
        have y2 := HZ2.out.1.frozen 2
        have z3 : w2.cell? ⟨w.heap.size, 3, none⟩ = some (.int .i64 0) := HZ2.out.1.cell_ rfl
        have y3 := HZ2.out.1.frozen 3
        have z4 : w2.cell? ⟨w.heap.size, 4, none⟩ = some (.int .i64 0) := HZ2.out.1.cell_ rfl
        have y4 := HZ2.out.1.frozen 4
        have z5 : w2.cell? ⟨w.heap.size, 5, none⟩ = some (.int .i64 0) := HZ2.out.1.cell_ rfl
        have y5 := HZ2.out.1.frozen 5
        have z6 : w2.cell? ⟨w.heap.size, 6, none⟩ = some (.int .i64 0) := HZ2.out.1.cell_ rfl
        have y6 := HZ2.out.1.frozen 6
        have z7 : w2.cell? ⟨w.heap.size, 7, none⟩ = some (.int .i64 0) := HZ2.out.1.cell_ rfl
        have y7 := HZ2.out.1.frozen 7
        have z8 : w2.cell? ⟨w.heap.size, 8, none⟩ = some (.int .i64 0) := HZ2.out.1.cell_ rfl
        have y8 := HZ2.out.1.frozen 8
        have z9 : w2.cell? ⟨w.heap.size, 9, none⟩ = some (.int .i64 0) := HZ2.out.1.cell_ rfl
        have y9 := HZ2.out.1.frozen 9
        have z10 : w2.cell? ⟨w.heap.size, 10, none⟩ = some (.string ⟨#[]⟩) := HZ2.out.1.cell_ rfl
        have y10 := HZ2.out.1.frozen 10
        go_wp2_with fail
        refine bodyPost_ret (by simp [results, Tryz.results11, go_sem, z0, z1, z2, z3, z4, z5, z6, z7, z8, z9, z10]; rfl) rfl ⟨?_, ?_⟩
        · rw [HFin.out]; rfl
        · have hBv := HZ2.out.2.2.2; go_grown
    · have cl : wr.cell? ⟨bl, ol + 5, none⟩ = some (.string s5) := (hb.cell (p := ⟨bl, ol + 5, none⟩) hbl).trans (HC.out 5 _ rfl)
      have cf : wr.cell? ⟨w.heap.size + 1 + 1, 5, none⟩ = some (.func (.func 55) #[] #[]) := bf.cell_ rfl
      clear bf hb
      have HF := Lib.hid (show Calls Tryz.prog 55 #[.pointer (some ⟨w.heap.size + 1, 0, none⟩), .string s5] wr fun e w' => e = .returned (.int .i64 (parseR s5.data.toList).2) ∧ Blk w' (w.heap.size + 1) 29 (uptoR 6 s0.data.toList s1.data.toList s2.data.toList s4.data.toList s5.data.toList s6.data.toList s7.data.toList s8.data.toList).cells ∧ But (w.heap.size + 1) wr w' from field5_any s5 (w.heap.size + 1) _ wr h5 HT1.out HBR.out)
      have HEk := Lib.hid (show (errsR s0.data.toList s1.data.toList s2.data.toList s4.data.toList s5.data.toList s6.data.toList s7.data.toList s8.data.toList)[5]? = some (parseR s5.data.toList).2 from rfl)
      generalize (parseR s5.data.toList).2 = er at *
      go_wp2_with fail
      refine HF.out.mono ?_
      rintro e w2 ⟨rfl, br2, hbut⟩
      have HZ2 := Lib.hid (And.intro (HZ.out.1.but hbut (by omega)) (And.intro br2 (And.intro (HZ.out.2.1.but hbut (by omega)) (hbut.below HZ.out.2.2 (by omega) (Nat.le_refl _)))))
      clear br2 hbut HZ HBR HF
      by_cases her : er = 0
      · subst her
        go_wp2_with fail
        go_roundw
        case rel =>
          refine ⟨6, by omega, rfl, HZ2.out.1, HZ2.out.2.1, HZ2.out.2.2.1, HZ2.out.2.2.2, fun j hj => ?_⟩
          rcases Nat.lt_or_ge j 5 with h | h
          · exact HE.out j h
          · obtain rfl : j = 5 := by omega
            exact HEk.out
        case measure => simp [intOf]
      · have herb : (er != 0) = true := by rw [bne_iff_ne]; exact her
        have HFin := Lib.hid (show R = (RuleP.none, er) by rw [HR.out, firstE_at _ 5 er HE.out HEk.out her, if_neg her])
        clear her HR HE HEk
        have z0 : w2.cell? ⟨w.heap.size, 0, none⟩ = some (.string ⟨#[]⟩) := HZ2.out.1.cell_ rfl
        have y0 := HZ2.out.1.frozen 0
        have z1 : w2.cell? ⟨w.heap.size, 1, none⟩ = some (.int .i64 0) := HZ2.out.1.cell_ rfl
        have y1 := HZ2.out.1.frozen 1
        have z2 : w2.cell? ⟨w.heap.size, 2, none⟩ = some (.int .i64 0) := HZ2.out.1.cell_ rfl
        have y2 := HZ2.out.1.frozen 2
        have z3 : w2.cell? ⟨w.heap.size, 3, none⟩ = some (.int .i64 0) := HZ2.out.1.cell_ rfl
        have y3 := HZ2.out.1.frozen 3
        have z4 : w2.cell? ⟨w.heap.size, 4, none⟩ = some (.int .i64 0) := HZ2.out.1.cell_ rfl
        have y4 := HZ2.out.1.frozen 4
        have z5 : w2.cell? ⟨w.heap.size, 5, none⟩ = some (.int .i64 0) := HZ2.out.1.cell_ rfl
        have y5 := HZ2.out.1.frozen 5
        have z6 : w2.cell? ⟨w.heap.size, 6, none⟩ = some (.int .i64 0) := HZ2.out.1.cell_ rfl
        have y6 := HZ2.out.1.frozen 6
        have z7 : w2.cell? ⟨w.heap.size, 7, none⟩ = some (.int .i64 0) := HZ2.out.1.cell_ rfl
        have y7 := HZ2.out.1.frozen 7
        have z8 : w2.cell? ⟨w.heap.size, 8, none⟩ = some (.int .i64 0) := HZ2.out.1.cell_ rfl
        have y8 := HZ2.out.1.frozen 8
        have z9 : w2.cell? ⟨w.heap.size, 9, none⟩ = some (.int .i64 0) := HZ2.out.1.cell_ rfl
        have y9 := HZ2.out.1.frozen 9
        have z10 : w2.cell? ⟨w.heap.size, 10, none⟩ = some (.string ⟨#[]⟩) := HZ2.out.1.cell_ rfl
        have y10 := HZ2.out.1.frozen 10
        go_wp2_with fail
        refine bodyPost_ret (by simp [results, Tryz.results11, go_sem, z0, z1, z2, z3, z4, z5, z6, z7, z8, z9, z10]; rfl) rfl ⟨?_, ?_⟩
        · rw [HFin.out]; rfl
        · have hBv := HZ2.out.2.2.2; go_grown
    · have cl : wr.cell? ⟨bl, ol + 6, none⟩ = some (.string s6) := (hb.cell (p := ⟨bl, ol + 6, none⟩) hbl).trans (HC.out 6 _ rfl)
      have cf : wr.cell? ⟨w.heap.size + 1 + 1, 6, none⟩ = some (.func (.func 57) #[] #[]) := bf.cell_ rfl
      clear bf hb
      have HF := Lib.hid (show Calls Tryz.prog 57 #[.pointer (some ⟨w.heap.size + 1, 0, none⟩), .string s6] wr fun e w' => e = .returned (.int .i64 (clockR s6.data.toList).2) ∧ Blk w' (w.heap.size + 1) 29 (uptoR 7 s0.data.toList s1.data.toList s2.data.toList s4.data.toList s5.data.toList s6.data.toList s7.data.toList s8.data.toList).cells ∧ But (w.heap.size + 1) wr w' from field6_any s6 (w.heap.size + 1) _ wr h6 HT1.out HBR.out)
      have HEk := Lib.hid (show (errsR s0.data.toList s1.data.toList s2.data.toList s4.data.toList s5.data.toList s6.data.toList s7.data.toList s8.data.toList)[6]? = some (clockR s6.data.toList).2 from rfl)
      generalize (clockR s6.data.toList).2 = er at *
      go_wp2_with fail
      refine HF.out.mono ?_
      rintro e w2 ⟨rfl, br2, hbut⟩
      have HZ2 := Lib.hid (And.intro (HZ.out.1.but hbut (by omega)) (And.intro br2 (And.intro (HZ.out.2.1.but hbut (by omega)) (hbut.below HZ.out.2.2 (by omega) (Nat.le_refl _)))))
      clear br2 hbut HZ HBR HF
      by_cases her : er = 0
      · subst her
        go_wp2_with fail
        go_roundw
        case rel =>
          refine ⟨7, by omega, rfl, HZ2.out.1, HZ2.out.2.1, HZ2.out.2.2.1, HZ2.out.2.2.2, fun j hj => ?_⟩
          rcases Nat.lt_or_ge j 6 with h | h
          · exact HE.out j h
          · obtain rfl : j = 6 := by omega
            exact HEk.out
        case measure => simp [intOf]
      · have herb : (er != 0) = true := by rw [bne_iff_ne]; exact her
        have HFin := Lib.hid (show R = (RuleP.none, er) by rw [HR.out, firstE_at _ 6 er HE.out HEk.out her, if_neg her])
        clear her HR HE HEk
        have z0 : w2.cell? ⟨w.heap.size, 0, none⟩ = some (.string ⟨#[]⟩) := HZ2.out.1.cell_ rfl
        have y0 := HZ2.out.1.frozen 0
        have z1 : w2.cell? ⟨w.heap.size, 1, none⟩ = some (.int .i64 0) := HZ2.out.1.cell_ rfl
        have y1 := HZ2.out.1.frozen 1
        have z2 : w2.cell? ⟨w.heap.size, 2, none⟩ = some (.int .i64 0) := HZ2.out.1.cell_ rfl
        have y2 := HZ2.out.1.frozen 2
        have z3 : w2.cell? ⟨w.heap.size, 3, none⟩ = some (.int .i64 0) := HZ2.out.1.cell_ rfl
        have y3 := HZ2.out.1.frozen 3
        have z4 : w2.cell? ⟨w.heap.size, 4, none⟩ = some (.int .i64 0) := HZ2.out.1.cell_ rfl
        have y4 := HZ2.out.1.frozen 4
        have z5 : w2.cell? ⟨w.heap.size, 5, none⟩ = some (.int .i64 0) := HZ2.out.1.cell_ rfl
        have y5 := HZ2.out.1.frozen 5
        have z6 : w2.cell? ⟨w.heap.size, 6, none⟩ = some (.int .i64 0) := HZ2.out.1.cell_ rfl
        have y6 := HZ2.out.1.frozen 6
        have z7 : w2.cell? ⟨w.heap.size, 7, none⟩ = some (.int .i64 0) := HZ2.out.1.cell_ rfl
        have y7 := HZ2.out.1.frozen 7
        have z8 : w2.cell? ⟨w.heap.size, 8, none⟩ = some (.int .i64 0) := HZ2.out.1.cell_ rfl
        have y8 := HZ2.out.1.frozen 8
        have z9 : w2.cell? ⟨w.heap.size, 9, none⟩ = some (.int .i64 0) := HZ2.out.1.cell_ rfl
        have y9 := HZ2.out.1.frozen 9
        have z10 : w2.cell? ⟨w.heap.size, 10, none⟩ = some (.string ⟨#[]⟩) := HZ2.out.1.cell_ rfl
        have y10 := HZ2.out.1.frozen 10
        go_wp2_with fail
        refine bodyPost_ret (by simp [results, Tryz.results11, go_sem, z0, z1, z2, z3, z4, z5, z6, z7, z8, z9, z10]; rfl) rfl ⟨?_, ?_⟩
        · rw [HFin.out]; rfl
        · have hBv := HZ2.out.2.2.2; go_grown
    · have cl : wr.cell? ⟨bl, ol + 7, none⟩ = some (.string s7) := (hb.cell (p := ⟨bl, ol + 7, none⟩) hbl).trans (HC.out 7 _ rfl)
      have cf : wr.cell? ⟨w.heap.size + 1 + 1, 7, none⟩ = some (.func (.func 59) #[] #[]) := bf.cell_ rfl
      clear bf hb
      have HF := Lib.hid (show Calls Tryz.prog 59 #[.pointer (some ⟨w.heap.size + 1, 0, none⟩), .string s7] wr fun e w' => e = .returned (.int .i64 (offParseR s7.data.toList).2) ∧ Blk w' (w.heap.size + 1) 29 (uptoR 8 s0.data.toList s1.data.toList s2.data.toList s4.data.toList s5.data.toList s6.data.toList s7.data.toList s8.data.toList).cells ∧ But (w.heap.size + 1) wr w' from field7_any s7 (w.heap.size + 1) _ wr h7 HT1.out HBR.out)
      have HEk := Lib.hid (show (errsR s0.data.toList s1.data.toList s2.data.toList s4.data.toList s5.data.toList s6.data.toList s7.data.toList s8.data.toList)[7]? = some (offParseR s7.data.toList).2 from rfl)
      generalize (offParseR s7.data.toList).2 = er at *
      go_wp2_with fail
      refine HF.out.mono ?_
      rintro e w2 ⟨rfl, br2, hbut⟩
      have HZ2 := Lib.hid (And.intro (HZ.out.1.but hbut (by omega)) (And.intro br2 (And.intro (HZ.out.2.1.but hbut (by omega)) (hbut.below HZ.out.2.2 (by omega) (Nat.le_refl _)))))
      clear br2 hbut HZ HBR HF
      by_cases her : er = 0
      · subst her
        go_wp2_with fail
        go_roundw
        case rel =>
          refine ⟨8, by omega, rfl, HZ2.out.1, HZ2.out.2.1, HZ2.out.2.2.1, HZ2.out.2.2.2, fun j hj => ?_⟩
          rcases Nat.lt_or_ge j 7 with h | h
          · exact HE.out j h
          · obtain rfl : j = 7 := by omega
            exact HEk.out
        case measure => simp [intOf]
      · have herb : (er != 0) = true := by rw [bne_iff_ne]; exact her
        have HFin := Lib.hid (show R = (RuleP.none, er) by rw [HR.out, firstE_at _ 7 er HE.out HEk.out her, if_neg her])
        clear her HR HE HEk
        have z0 : w2.cell? ⟨w.heap.size, 0, none⟩ = some (.string ⟨#[]⟩) := HZ2.out.1.cell_ rfl
        have y0 := HZ2.out.1.frozen 0
        have z1 : w2.cell? ⟨w.heap.size, 1, none⟩ = some (.int .i64 0) := HZ2.out.1.cell_ rfl
        have y1 := HZ2.out.1.frozen 1
        have z2 : w2.cell? ⟨w.heap.size, 2, none⟩ = some (.int .i64 0) := HZ2.out.1.cell_ rfl
        have y2 := HZ2.out.1.frozen 2
        have z3 : w2.cell? ⟨w.heap.size, 3, none⟩ = some (.int .i64 0) := HZ2.out.1.cell_ rfl
        have y3 := HZ2.out.1.frozen 3
        have z4 : w2.cell? ⟨w.heap.size, 4, none⟩ = some (.int .i64 0) := HZ2.out.1.cell_ rfl
        have y4 := HZ2.out.1.frozen 4
        have z5 : w2.cell? ⟨w.heap.size, 5, none⟩ = some (.int .i64 0) := HZ2.out.1.cell_ rfl
        have y5 := HZ2.out.1.frozen 5
        have z6 : w2.cell? ⟨w.heap.size, 6, none⟩ = some (.int .i64 0) := HZ2.out.1.cell_ rfl
        have y6 := HZ2.out.1.frozen 6
        have z7 : w2.cell? ⟨w.heap.size, 7, none⟩ = some (.int .i64 0) := HZ2.out.1.cell_ rfl
        have y7 := HZ2.out.1.frozen 7
        have z8 : w2.cell? ⟨w.heap.size, 8, none⟩ = some (.int .i64 0) := HZ2.out.1.cell_ rfl
        have y8 := HZ2.out.1.frozen 8
        have z9 : w2.cell? ⟨w.heap.size, 9, none⟩ = some (.int .i64 0) := HZ2.out.1.cell_ rfl
        have y9 := HZ2.out.1.frozen 9
        have z10 : w2.cell? ⟨w.heap.size, 10, none⟩ = some (.string ⟨#[]⟩) := HZ2.out.1.cell_ rfl
        have y10 := HZ2.out.1.frozen 10
        go_wp2_with fail
        refine bodyPost_ret (by simp [results, Tryz.results11, go_sem, z0, z1, z2, z3, z4, z5, z6, z7, z8, z9, z10]; rfl) rfl ⟨?_, ?_⟩
        · rw [HFin.out]; rfl
        · have hBv := HZ2.out.2.2.2; go_grown
    · have cl : wr.cell? ⟨bl, ol + 8, none⟩ = some (.string s8) := (hb.cell (p := ⟨bl, ol + 8, none⟩) hbl).trans (HC.out 8 _ rfl)
      have cf : wr.cell? ⟨w.heap.size + 1 + 1, 8, none⟩ = some (.func (.func 61) #[] #[]) := bf.cell_ rfl
      clear bf hb
      have HF := Lib.hid (show Calls Tryz.prog 61 #[.pointer (some ⟨w.heap.size + 1, 0, none⟩), .string s8] wr fun e w' => e = .returned (.int .i64 (letterR s8.data.toList).2) ∧ Blk w' (w.heap.size + 1) 29 (uptoR 9 s0.data.toList s1.data.toList s2.data.toList s4.data.toList s5.data.toList s6.data.toList s7.data.toList s8.data.toList).cells ∧ But (w.heap.size + 1) wr w' from field8_any s8 (w.heap.size + 1) _ wr h8 HT1.out HBR.out)
      have HEk := Lib.hid (show (errsR s0.data.toList s1.data.toList s2.data.toList s4.data.toList s5.data.toList s6.data.toList s7.data.toList s8.data.toList)[8]? = some (letterR s8.data.toList).2 from rfl)
      generalize (letterR s8.data.toList).2 = er at *
      go_wp2_with fail
      refine HF.out.mono ?_
      rintro e w2 ⟨rfl, br2, hbut⟩
      have HZ2 := Lib.hid (And.intro (HZ.out.1.but hbut (by omega)) (And.intro br2 (And.intro (HZ.out.2.1.but hbut (by omega)) (hbut.below HZ.out.2.2 (by omega) (Nat.le_refl _)))))
      clear br2 hbut HZ HBR HF
      by_cases her : er = 0
      · subst her
        go_wp2_with fail
        go_roundw
        case rel =>
          refine ⟨9, by omega, rfl, HZ2.out.1, HZ2.out.2.1, HZ2.out.2.2.1, HZ2.out.2.2.2, fun j hj => ?_⟩
          rcases Nat.lt_or_ge j 8 with h | h
          · exact HE.out j h
          · obtain rfl : j = 8 := by omega
            exact HEk.out
        case measure => simp [intOf]
      · have herb : (er != 0) = true := by rw [bne_iff_ne]; exact her
        have HFin := Lib.hid (show R = (RuleP.none, er) by rw [HR.out, firstE_at _ 8 er HE.out HEk.out her, if_neg her])
        clear her HR HE HEk
        have z0 : w2.cell? ⟨w.heap.size, 0, none⟩ = some (.string ⟨#[]⟩) := HZ2.out.1.cell_ rfl
        have y0 := HZ2.out.1.frozen 0
        have z1 : w2.cell? ⟨w.heap.size, 1, none⟩ = some (.int .i64 0) := HZ2.out.1.cell_ rfl
        have y1 := HZ2.out.1.frozen 1
        have z2 : w2.cell? ⟨w.heap.size, 2, none⟩ = some (.int .i64 0) := HZ2.out.1.cell_ rfl
        have y2 := HZ2.out.1.frozen 2
        have z3 : w2.cell? ⟨w.heap.size, 3, none⟩ = some (.int .i64 0) := HZ2.out.1.cell_ rfl
        have y3 := HZ2.out.1.frozen 3
        have z4 : w2.cell? ⟨w.heap.size, 4, none⟩ = some (.int .i64 0) := HZ2.out.1.cell_ rfl
        have y4 := HZ2.out.1.frozen 4
        have z5 : w2.cell? ⟨w.heap.size, 5, none⟩ = some (.int .i64 0) := HZ2.out.1.cell_ rfl
        have y5 := HZ2.out.1.frozen 5
        have z6 : w2.cell? ⟨w.heap.size, 6, none⟩ = some (.int .i64 0) := HZ2.out.1.cell_ rfl
        have y6 := HZ2.out.1.frozen 6
        have z7 : w2.cell? ⟨w.heap.size, 7, none⟩ = some (.int .i64 0) := HZ2.out.1.cell_ rfl
        have y7 := HZ2.out.1.frozen 7
        have z8 : w2.cell? ⟨w.heap.size, 8, none⟩ = some (.int .i64 0) := HZ2.out.1.cell_ rfl
        have y8 := HZ2.out.1.frozen 8
        have z9 : w2.cell? ⟨w.heap.size, 9, none⟩ = some (.int .i64 0) := HZ2.out.1.cell_ rfl
        have y9 := HZ2.out.1.frozen 9
        have z10 : w2.cell? ⟨w.heap.size, 10, none⟩ = some (.string ⟨#[]⟩) := HZ2.out.1.cell_ rfl
        have y10 := HZ2.out.1.frozen 10
        go_wp2_with fail
        refine bodyPost_ret (by simp [results, Tryz.results11, go_sem, z0, z1, z2, z3, z4, z5, z6, z7, z8, z9, z10]; rfl) rfl ⟨?_, ?_⟩
        · rw [HFin.out]; rfl
        · have hBv := HZ2.out.2.2.2; go_grown
end Go.Proofs.YtgfnnmdngckmmaaGreatDoor
