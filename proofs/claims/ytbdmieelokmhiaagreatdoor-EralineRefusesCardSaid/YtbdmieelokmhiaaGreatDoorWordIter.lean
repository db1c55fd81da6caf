/-
  word.beginning and its iterator: what it yields.
-/
import Derived.Test.YtbdmieelokmhiaaGreatDoorStrPrefix
import Derived.RangeFuncNested
import Derived.RangeFuncBound
import Derived.RangeFuncCalls
import Derived.RangeFuncLeaves
import Derived.RangeFuncFrom
import Derived.Shelf.Abstract
import Derived.Shelf.RegionOpen
import Derived.OwnWalkIn
import Derived.TacticsInMore
import Derived.LoopNIn
import Derived.LoopIn
set_option linter.unusedVariables false
namespace Go.Proofs.YtbdmieelokmhiaaGreatDoor
open Go.RowKit Go.Shelf
attribute [local go_sem] Oper.semAt_some

/-- a list of words in memory, below n₀ -/
def Words (n₀ : Nat) (W : World) (sv : Value) (ws : List (List UInt8)) : Prop :=
  ∃ b cap, sv = .slice (some ⟨b, 0, none⟩) ws.length cap ∧ b < n₀ ∧ ∀ j l, ws[j]? = some l → W.cell? ⟨b, j, none⟩ = some (.string ⟨l.toArray⟩)
theorem Words.below {n₀ : Nat} {A B : World} {sv : Value} {ws : List (List UInt8)} (h : Words n₀ A sv ws) (hb : Below n₀ A B) : Words n₀ B sv ws := by
  obtain ⟨b, cap, e, hlt, hc⟩ := h
  exact ⟨b, cap, e, hlt, fun j l hl => (hb.cell (p := ⟨b, j, none⟩) hlt).trans (hc j l hl)⟩

def hits (s l : List UInt8) : Bool := !s.isEmpty && Lib.hasPrefix l s
def pairs (ws : List (List UInt8)) (k : Nat) : List (Nat × List UInt8) := (List.range k).map fun j => (j, ws[j]?.getD [])
def begTo (s : List UInt8) (ws : List (List UInt8)) (k : Nat) : List (Nat × List UInt8) := (pairs ws k).filter fun p => hits s p.2
theorem begTo_zero (s : List UInt8) (ws : List (List UInt8)) : begTo s ws 0 = [] := rfl
theorem begTo_hit {s : List UInt8} {ws : List (List UInt8)} {k : Nat} (h : hits s (ws[k]?.getD []) = true) : begTo s ws (k + 1) = begTo s ws k ++ [(k, ws[k]?.getD [])] := by
  simp [begTo, pairs, List.range_succ, List.filter_append, h]
theorem begTo_miss {s : List UInt8} {ws : List (List UInt8)} {k : Nat} (h : hits s (ws[k]?.getD []) = false) : begTo s ws (k + 1) = begTo s ws k := by
  simp [begTo, pairs, List.range_succ, List.filter_append, h]
theorem begTo_len (s : List UInt8) (ws : List (List UInt8)) (k : Nat) : (begTo s ws k).length ≤ k := by
  have := List.length_filter_le (fun p : Nat × List UInt8 => hits s p.2) (pairs ws k)
  simpa [begTo, pairs] using this

/-- what a round keeps: all that lay below n₀, and the box of the string -/
def KpF (n₀ Bs : Nat) (A B : World) : Prop := Below n₀ A B ∧ ∀ v, A.cell? ⟨Bs, 0, none⟩ = some v → B.cell? ⟨Bs, 0, none⟩ = some v
theorem KpF.trans {n₀ Bs : Nat} {A B C : World} (h : KpF n₀ Bs A B) (k : KpF n₀ Bs B C) : KpF n₀ Bs A C := ⟨h.1.trans k.1, fun v hv => k.2 v (h.2 v hv)⟩

set_option maxRecDepth 100000 in
set_option maxHeartbeats 2000000 in
theorem beginning1_in (n : Nat) (hn : 3 ≤ n) (l Bl Bs n₀ b cap : Nat) (ws : List (List UInt8)) (s : ByteArray) (hlen : ws.length ≤ 100) (hb : b < n₀) (J Jx : List (Nat × List UInt8) → World → Prop)
    (hY : ∀ pre x W, J pre W → pre.length < ws.length → YieldAt Fence.wide (n - 1) Tryz.prog l #[.int .i64 (x.1 : Int), .string ⟨x.2.toArray⟩] W fun e W' =>
      (e = .returned (.bool true) ∧ J (pre ++ [x]) W' ∧ KpF n₀ Bs W W') ∨ (e = .returned (.bool false) ∧ Jx (pre ++ [x]) W'))
    (W : World) (hBl : W.cell? ⟨Bl, 0, none⟩ = some (.slice (some ⟨b, 0, none⟩) ws.length cap)) (hBs : W.cell? ⟨Bs, 0, none⟩ = some (.string s)) (hc : ∀ j l, ws[j]? = some l → W.cell? ⟨b, j, none⟩ = some (.string ⟨l.toArray⟩)) (h0 : J [] W) :
    CallsIn Fence.wide n Tryz.prog 188 #[.func (.yield l) #[] #[], .pointer (some ⟨Bl, 0, none⟩), .pointer (some ⟨Bs, 0, none⟩)] W fun e W' => (∃ v, e = .returned v) ∧
      ((∃ ys, ys = begTo s.data.toList ws ws.length ∧ J ys W') ∨ (∃ pre, (∃ k, k ≤ ws.length ∧ pre = begTo s.data.toList ws k) ∧ Jx pre W')) := by
  have hwf : ∀ f, Fence.wide.fn f := fun _ => trivial
  have hwd : Fence.wide.depth.isSome = false := rfl
  refine callsIn_of_wp Tryz.func188 rfl trivial ?_ rfl
  simp only [Tryz.ntmps188, List.size_toArray, List.length_cons, List.length_nil, Nat.reduceAdd, Nat.reduceSub, Array.replicate_succ, Array.replicate_zero, List.push_toArray, List.append_toArray, List.nil_append, List.cons_append]
  gi_wp2
  gi_loopw [8] (fun i wr => ∃ k : Nat, k ≤ ws.length ∧ i = .int .i64 k ∧ J (begTo s.data.toList ws k) wr ∧ KpF n₀ Bs W wr)
    (fun i _ => ws.length - (intOf i).toNat)
  case atStart => exact ⟨0, Nat.zero_le _, rfl, h0, Below.refl _ _, fun _ h => h⟩
  case round =>
    obtain ⟨k, hk, rfl, hJs, hnx⟩ := hrel
    have hBs' := hnx.2 _ hBs
    by_cases hlt : k < ws.length
    · have hd : decide ((k : Int) < (ws.length : Int)) = true := by simp; omega
      have hck : wr.cell? ⟨b, k, none⟩ = some (.string ⟨(ws[k]?.getD []).toArray⟩) := (hnx.1.cell (p := ⟨b, k, none⟩) hb).trans (hc k _ (by simp [hlt]))
      have HJ := Lib.hid hJs
      have HHit := Lib.hid (@begTo_hit s.data.toList ws k)
      have HMiss := Lib.hid (@begTo_miss s.data.toList ws k)
      obtain ⟨fn, tmps, assign, body, hy, hR⟩ := hY _ (k, ws[k]?.getD []) wr hJs (by have := begTo_len s.data.toList ws k; omega)
      have HY := Lib.hid hR
      have HH := Lib.hid (show hits s.data.toList (ws[k]?.getD []) = (!s.data.toList.isEmpty && Lib.hasPrefix (ws[k]?.getD []) s.data.toList) from rfl)
      clear hc hBl hBs hY hJs hR
      generalize ws[k]?.getD [] = lk at *
      cases he : s.data.toList.isEmpty
      · have he1 : s.toList.isEmpty = false := by rw [Lib.toList_data]; exact he
        cases hpx : Lib.hasPrefix lk s.data.toList
        · have hm := HMiss.out (by rw [HH.out, hpx]; simp)
          gi_wp2_with fail
          refine (callsIn_wide.2 (prefix_any _ _ _)).mono ?_
          rintro e w' ⟨rfl, rfl⟩
          rw [hpx]
          gi_wp2
          go_roundw
          case rel => exact ⟨k + 1, by omega, by go_num, by rw [hm]; exact HJ.out, hnx⟩
          case measure => simp [intOf]; omega
        · have hm := Lib.hid (HHit.out (by rw [HH.out, hpx, he]; rfl))
          gi_wp2_with fail
          refine (callsIn_wide.2 (prefix_any _ _ _)).mono ?_
          rintro e w' ⟨rfl, rfl⟩
          rw [hpx]
          gi_wp2
          refine HY.out.mono ?_
          rintro e W3 (⟨rfl, hJ3, hk3⟩ | ⟨rfl, hJx3⟩)
          · gi_wp2
            go_roundw
            case rel => exact ⟨k + 1, by omega, by go_num, by rw [hm.out]; exact hJ3, hnx.trans hk3⟩
            case measure => simp [intOf]; omega
          · gi_wp2
            refine bodyPost_ret (results_none rfl _ _ _) rfl ?_
            exact ⟨⟨_, rfl⟩, .inr ⟨_, ⟨k + 1, by omega, hm.out.symm⟩, hJx3⟩⟩
      · have he1 : s.toList.isEmpty = true := by rw [Lib.toList_data]; exact he
        have hm := HMiss.out (by rw [HH.out, he]; rfl)
        gi_wp2
        go_roundw
        case rel => exact ⟨k + 1, by omega, by go_num, by rw [hm]; exact HJ.out, hnx⟩
        case measure => simp [intOf]; omega
    · obtain rfl : k = ws.length := by omega
      have hd : decide ((ws.length : Int) < (ws.length : Int)) = false := by simp
      gi_wp2
      go_end0
      exact ⟨⟨_, rfl⟩, .inl ⟨_, rfl, hJs⟩⟩
end Go.Proofs.YtbdmieelokmhiaaGreatDoor
