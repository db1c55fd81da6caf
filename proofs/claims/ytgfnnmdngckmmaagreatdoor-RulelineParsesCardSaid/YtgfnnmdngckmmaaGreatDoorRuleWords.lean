/-
  words of the law: the words of a string, laid in a row of the call's own.
-/
import Derived.Test.YtgfnnmdngckmmaaGreatDoorRulePrint
import Derived.Test.YtgfnnmdngckmmaaGreatDoorRef8
import Derived.BigRegion
import Derived.Laws.OwnMore
import Derived.Deep.AppendLies
import Derived.OwnWalk
set_option linter.unusedVariables false
namespace Go.Proofs.YtgfnnmdngckmmaaGreatDoor
open Go.RowKit

def strV (ls : List (List UInt8)) : List Value := ls.map fun l => .string ⟨l.toArray⟩
theorem infoStr : (Tryz.prog.info? 9).map (fun i => (i.zero, i.size, i.bytes)) = some (some (.string ⟨#[]⟩), 1, 16) := by kernel_rfl
theorem wFold_len : ∀ (l : List UInt8) (d : List (List UInt8)) (cur : List UInt8), (l.foldl wStep (d, cur)).1.length ≤ d.length + l.length
  | [], d, cur => by simp
  | c :: l, d, cur => by
    rw [List.foldl_cons]
    have h := wFold_len l (wStep (d, cur) c).1 (wStep (d, cur) c).2
    have h2 : (wStep (d, cur) c).1.length ≤ d.length + 1 := by unfold wStep; split <;> simp
    simp only [List.length_cons]
    have h3 : ((wStep (d, cur) c).1, (wStep (d, cur) c).2) = wStep (d, cur) c := rfl
    rw [h3] at h
    omega
theorem words_len (l : List UInt8) : (wFold l).1.length ≤ l.length := by have := wFold_len l [] []; simpa [wFold] using this
theorem wFold_cur : ∀ (l : List UInt8) (d : List (List UInt8)) (cur : List UInt8), (l.foldl wStep (d, cur)).2.length ≤ cur.length + l.length
  | [], d, cur => by simp
  | c :: l, d, cur => by
    rw [List.foldl_cons]
    have h := wFold_cur l (wStep (d, cur) c).1 (wStep (d, cur) c).2
    have h2 : (wStep (d, cur) c).2.length ≤ cur.length + 1 := by unfold wStep; split <;> simp
    simp only [List.length_cons]
    have h3 : ((wStep (d, cur) c).1, (wStep (d, cur) c).2) = wStep (d, cur) c := rfl
    rw [h3] at h
    omega
theorem words_cur (l : List UInt8) : (wFold l).2.length ≤ l.length := by have := wFold_cur l [] []; simpa [wFold] using this
theorem words_space {l : List UInt8} {c : UInt8} (h : c = 32) : wFold (l ++ [c]) = ((wFold l).1 ++ [(wFold l).2], []) := by rw [wFold_snoc]; exact if_pos h
theorem words_more {l : List UInt8} {c : UInt8} (h : c ≠ 32) : wFold (l ++ [c]) = ((wFold l).1, (wFold l).2 ++ [c]) := by rw [wFold_snoc]; exact if_neg h

theorem strV_set (ds : List (List UInt8)) (cu : List UInt8) (c : UInt8) (m : Nat) (h : ds.length = m) : (strV (ds ++ [cu])).set m (.string (⟨cu.toArray⟩ ++ ⟨#[c]⟩)) = strV (ds ++ [cu ++ [c]]) := by
  subst h
  have hb : (⟨cu.toArray⟩ ++ ⟨#[c]⟩ : ByteArray) = ⟨(cu ++ [c]).toArray⟩ := by simp [ba_append]
  rw [hb]
  simp [strV]

set_option maxRecDepth 100000 in
set_option maxHeartbeats 1000000 in
theorem words_any (s : ByteArray) (w : World) (hs : s.size ≤ 1048576) :
    Calls Tryz.prog 16 #[.string s] w fun e w' => (∃ v, e = .returned v ∧ w'.ownsRow w.heap.size 9 1 v (wordsR s.data.toList).length (strV (wordsR s.data.toList))) ∧ Below w.heap.size w w' := by
  obtain ⟨i0, hi, hz0, hz1, hz2⟩ := info_parts infoStr
  go_enter Tryz.func16, Tryz.ntmps16
  go_wp2_with fail
  go_loopw [3, 4] (fun v i wr => ∃ (k m : Nat) (ds : List (List UInt8)) (cu : List UInt8), k ≤ s.size ∧ i = .int .i64 (k : Int) ∧ wFold (s.data.toList.take k) = (ds, cu) ∧ ds.length = m ∧ wr.ownsRow w.heap.size 9 1 v (m + 1) (strV (ds ++ [cu])) ∧ Below w.heap.size w wr) (fun _ i _ => s.size - (intOf i).toNat)
  case atStart => exact ⟨0, 0, [], [], Nat.zero_le _, rfl, rfl, rfl, World.ownsRow_lit w #[.string ⟨#[]⟩] 1 (Nat.le_refl _) (by unfold maxLen; omega) rfl, (Below.refl _ _).alloc (Nat.le_refl _) _⟩
  case round =>
    obtain ⟨k, m, ds, cu, hk, rfl, hf, hm, hown, hb⟩ := hrel
    by_cases hlt : k < s.size
    · have hmk : m ≤ k := by
        have := words_len (s.data.toList.take k)
        rw [hf] at this
        simp only [List.length_take] at this
        omega
      have hcl : cu.length ≤ 1048576 := by
        have := words_cur (s.data.toList.take k)
        rw [hf] at this
        simp only [List.length_take] at this
        omega
      have hsn := take_snoc' s k hlt
      obtain ⟨c, hc⟩ : ∃ c : UInt8, c = s[k]'hlt := ⟨_, rfl⟩
      have g0 : ∀ h, (s[k]'h) = c := fun _ => hc.symm
      rw [← hc] at hsn
      clear hc
      have hd : decide (k < s.size) = true := by simp [hlt]
      by_cases h32 : c = 32
      · have HF := Lib.hid (show wFold (s.data.toList.take (k + 1)) = (ds ++ [cu], []) by rw [hsn, words_space h32, hf])
        have hce : ((c.toNat : Int) == 32) = true := by subst h32; rfl
        clear hf hsn
        go_wp2_with (at_builtin; refine wpList_append_any _ rfl (.tmp 16) (.tmp 17) 22 rfl w.heap.size 9 i0 (.string ⟨#[]⟩) 1 16 Tryz.underlying22 hi hz0 hz1 hz2 rfl (by decide) _ (m + 1) _ rfl (hown.alloc _) (wr.heap.size + 1) (some ⟨wr.heap.size, 0, none⟩) 1 1 [.string ⟨#[]⟩] rfl ?c0 ?c1 ?c2 ?c3 ?c4 ?_)
        case c0 => exact ⟨rfl, fun _ => ⟨_, rfl, by simp, cell_one_new _ _ _⟩⟩
        case c1 => intro u hu; simp at hu; subst hu; rfl
        case c2 => unfold maxLen; omega
        case c3 => omega
        case c4 => have := hb.size; simp; omega
        intro v' w1 hown' hgrow _
        have hb1 := below_push hb hb.size hown hgrow
        have HO := Lib.hid (show w1.ownsRow w.heap.size 9 1 v' (m + 1 + 1) (strV (ds ++ [cu] ++ [[]])) by
          have h := hown'
          rw [show strV (ds ++ [cu]) ++ [.string ⟨#[]⟩] = strV (ds ++ [cu] ++ [[]]) by simp [strV]] at h
          exact h)
        clear hown' hgrow hown hb
        go_wp2_with fail
        go_roundw
        case rel => exact ⟨k + 1, m + 1, ds ++ [cu], [], by omega, by go_num, HF.out, by simp [hm], HO.out, hb1⟩
        case measure => simp [intOf]; omega
      · have HF := Lib.hid (show wFold (s.data.toList.take (k + 1)) = (ds, cu ++ [c]) by rw [hsn, words_more h32, hf])
        have hce : ((c.toNat : Int) == 32) = false := by
          rw [beq_eq_false_iff_ne]
          intro h
          exact h32 (UInt8.toNat_inj.1 (by simpa using (by omega : c.toNat = 32)))
        clear hf hsn h32
        obtain ⟨g, cap, rfl, hgb, hgl⟩ := hown.form (by omega)
        have c1 : wr.cell? ⟨g, m, none⟩ = some (.string ⟨cu.toArray⟩) := by
          rw [hown.cellAt m (by omega), strV, List.getElem?_map, List.getElem?_append_right (by omega), hm, Nat.sub_self]; rfl
        have c2 := hown.frozenAt m
        have HO := Lib.hid hown
        have HB := Lib.hid hb
        have HM := Lib.hid hm
        clear hown hb hm
        have hmm : m < m + 1 := by omega
        have hst : strOfNums [(c.toNat : Int)] = ⟨#[c]⟩ := by simp [strOfNums]
        have hcv : ∀ W : World, (convert 77 9 (.slice (some ⟨W.heap.size, 0, none⟩) 1 1)).run Tryz.prog (W.alloc (.cells #[.int .u8 (c.toNat : Int)] 5)) = .ok (.string ⟨#[c]⟩) (W.alloc (.cells #[.int .u8 (c.toNat : Int)] 5)) := fun W => conv_one W _ _ hst
        have hcv2 : ∀ W : World, (convert 77 9 (.slice (some ⟨W.heap.size, 0, none⟩) 1 1)).run Tryz.prog (W.alloc (.cells #[.int .u8 (c.toNat : Int)] 5)).drew = .ok (.string ⟨#[c]⟩) (W.alloc (.cells #[.int .u8 (c.toNat : Int)] 5)).drew := fun W => conv_one_drew W _ _ hst
        clear hst
        go_wp2_with fail
        go_region
        go_wp2_with fail
        refine ⟨⟨k + 1, m, ds, cu ++ [c], by omega, by go_num, HF.out, HM.out, ?_, ?_⟩, by simp [intOf]; omega⟩
        · have h := ((HO.out.stored m (.string (⟨cu.toArray⟩ ++ ⟨#[c]⟩))).1.alloc (.cells #[.int .u8 (c.toNat : Int)] 5)).drew
          rw [strV_set ds cu c m HM.out] at h
          exact h
        · exact ((HB.out.grown (HO.out.stored m _).2 HB.out.size (by intro k hk; simp at hk; omega)).alloc (by have := HB.out.size; simp; omega) _).drew
    · obtain rfl : k = s.size := by omega
      have HF := Lib.hid (show wordsR s.data.toList = ds ++ [cu] by rw [wordsR, show s.data.toList = s.data.toList.take s.size from (List.take_of_length_le (Nat.le_refl _)).symm, hf])
      have HO := Lib.hid hown
      have HB := Lib.hid hb
      have HM := Lib.hid hm
      clear hown hb hf hm
      go_wp2_with fail
      go_ret
      refine ⟨⟨_, rfl, ?_⟩, HB.out⟩
      rw [HF.out, List.length_append, HM.out]
      exact HO.out
end Go.Proofs.YtgfnnmdngckmmaaGreatDoor
