/-
  Drafts of rules as plain data; what the laws take of Made, Print and works.
-/
import Derived.Test.YtgfnnmdngckmmaaGreatDoorRuleMade
import Derived.Test.YtgfnnmdngckmmaaGreatDoorRuleWorks
set_option linter.unusedVariables false
namespace Go.Proofs.YtgfnnmdngckmmaaGreatDoor
open Go.RowKit

structure DraftP where
  nm : Nat
  lt : Nat
  fr : Nat
  tt : Nat
  mo : Nat
  dk : Nat
  dw : Nat
  dd : Nat
  at_ : Int
  sv : Int
  bs : Nat
def DraftP.cells (d : DraftP) : Array Value := #[.int .u8 (d.nm : Int), .int .u8 (d.lt : Int), .int .u16 (d.fr : Int), .int .u16 (d.tt : Int), .int .u8 (d.mo : Int), .int .u8 (d.dk : Int), .int .u8 (d.dw : Int), .int .u8 (d.dd : Int), .int .i32 d.at_, .int .i32 d.sv, .int .u8 (d.bs : Int)]
structure DraftP.Ok (d : DraftP) : Prop where
  nm : d.nm < 256
  lt : d.lt < 256
  fr : d.fr < 65536
  tt : d.tt < 65536
  mo : d.mo < 256
  dk : d.dk < 256
  dw : d.dw < 256
  dd : d.dd < 256
  at_ : -2147483648 ≤ d.at_ ∧ d.at_ ≤ 2147483647
  sv : -2147483648 ≤ d.sv ∧ d.sv ≤ 2147483647
  bs : d.bs < 256
def DraftP.made (d : DraftP) : RuleP := draftM d.nm d.lt d.fr d.tt d.mo d.dk d.dw d.dd d.at_ d.sv d.bs
theorem DraftP.right (d : DraftP) : RuleRight d.made := draft_right ..
theorem DraftP.made_any (d : DraftP) (h : d.Ok) (w : World) : Calls Tryz.prog 15 #[.agg d.cells] w fun e w' => e = .returned (ruleV d.made) ∧ Below w.heap.size w w' :=
  made10_any d.nm d.lt d.fr d.tt d.mo d.dk d.dw d.dd d.at_ d.sv d.bs w h.nm h.lt h.fr h.tt h.mo h.dk h.dw h.dd h.at_ h.sv h.bs
theorem infoDraft : (Tryz.prog.info? 41).map (·.size) = some 11 := by kernel_rfl
theorem rule_lens {r : RuleP} (h : RuleRight r) : r.name.length ≤ 1048576 ∧ r.lett.length ≤ 1048576 := by
  refine ⟨by have := set_len h.name; omega, ?_⟩
  rcases h.lett with h | h
  · rw [h]; decide
  · have := (ofB_len h).2; omega
theorem print_right (r : RuleP) (h : RuleRight r) (w : World) (hT : RTabs w) : Calls Tryz.prog 13 #[ruleV r] w fun e w' => e = .returned (.tuple #[.string ⟨(ruleT r).toArray⟩, .int .i64 0]) ∧ Below w.heap.size w w' := by
  have := rulePrint_any r w hT (rule_lens h).1 (rule_lens h).2
  rwa [show rulePrintR r = (ruleT r, 0) from if_pos ((ruleOk_iff _).2 h)] at this
theorem print_wrong (r : RuleP) (h : ¬ RuleRight r) (hl : r.name.length ≤ 1048576 ∧ r.lett.length ≤ 1048576) (w : World) (hT : RTabs w) : Calls Tryz.prog 13 #[ruleV r] w fun e w' => e = .returned (.tuple #[.string ⟨#[]⟩, .int .i64 2]) ∧ Below w.heap.size w w' := by
  have := rulePrint_any r w hT hl.1 hl.2
  rwa [show rulePrintR r = ([], 2) from if_neg fun h2 => h ((ruleOk_iff _).1 h2)] at this
theorem words_back (r : RuleP) (h : RuleRight r) (w : World) (hT : RTabs w) : Calls Tryz.prog 16 #[.string ⟨(ruleT r).toArray⟩] w fun e w' => (∃ g cap, e = .returned (.slice (some ⟨g, 0, none⟩) 10 cap) ∧ 10 ≤ cap ∧ w'.cell? ⟨g, 0, none⟩ = some (.string ⟨#[82, 117, 108, 101]⟩) ∧ Hid (∀ c2, Calls Tryz.prog 11 #[.slice (some ⟨g, 1, none⟩) 9 c2] w' fun e w2 => e = .returned (.tuple #[ruleV r, .int .i64 0]) ∧ Below w'.heap.size w' w2)) ∧ Below w.heap.size w w' :=
  (words_row ⟨(ruleT r).toArray⟩ w (by have := ruleT_len h; show (ruleT r).length ≤ 1048576; omega)).mono fun e w' ⟨⟨g, cap, he, hcap, hg, hr, ho⟩, hb⟩ => by
    rw [words_rule h] at he hcap hr
    refine ⟨⟨g, cap, he, hcap, hr.at_ 0 _ rfl, Lib.hid fun c2 => ?_⟩, hb⟩
    have hp := ruleParse_any g 1 9 c2 (ruleFs r) w' (hT.below hb) hr.tail rfl fun l hl => by have := fields_len h l (List.mem_cons_of_mem _ hl); omega
    rw [rule_back h] at hp
    exact hp
end Go.Proofs.YtgfnnmdngckmmaaGreatDoor
