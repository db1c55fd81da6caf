/-
  words of the law: the words of a string, laid in a row of the call's own.
  ruleline.Parse of whatever row of fields; fails and works of the law.
-/
import Derived.Test.YtboagmbmmoomiaaGreatDoorRuleAll
import Derived.Test.YtboagmbmmoomiaaGreatDoorOffAll
import Derived.Test.YtboagmbmmoomiaaGreatDoorRefNine
import Derived.BigRegion
import Derived.Laws.OwnMore
import Derived.Deep.AppendLies
import Derived.OwnWalk
set_option linter.unusedVariables false
set_option maxRecDepth 100000
set_option maxHeartbeats 4000000
namespace Go.Proofs.YtboagmbmmoomiaaGreatDoor
open Go.RowKit
theorem ruleParse_x (bl ol c:Nat) (s3:ByteArray) (w:World) (hbl:bl<w.heap.size) (hc:w.cell? ⟨bl,ol+3,none⟩=some (.string s3)) (h3:s3.data.toList≠[45]) :
 Calls Tryz.prog 118 #[.slice (some ⟨bl,ol,none⟩) 9 c] w fun e w'=>e=.returned (.tuple #[ruleV RuleP.none,.int .i64 5])∧Below w.heap.size w w':=by
 have hne:(s3.toList==[45])=false:=str_ne h3;clear h3
 go_enter Tryz.func118,Tryz.ntmps118;go_wp2_with fail
 refine bodyPost_ret (by simp [results,Tryz.results118,go_sem];rfl) rfl ⟨rfl,by go_grown⟩
theorem ruleR_n {ls:List (List UInt8)} (h:ls.length≠9):ruleR ls=(RuleP.none,5):=by
 unfold ruleR
 split
 ·exact absurd rfl h
 ·rfl
theorem nine {ls:List (List UInt8)} (h:ls.length=9):∃a0 a1 a2 a3 a4 a5 a6 a7 a8,ls=[a0,a1,a2,a3,a4,a5,a6,a7,a8]:=by
 match ls,h with
 | [a0,a1,a2,a3,a4,a5,a6,a7,a8],_=>exact ⟨_,_,_,_,_,_,_,_,_,rfl⟩
theorem ruleParse_any (b o n c:Nat) (ls:List (List UInt8)) (w:World) (hT:RTabs w) (hr:StrRow w b o ls) (hn:ls.length=n) (hl:∀l ∈ ls,l.length≤1048576) :
 Calls Tryz.prog 118 #[.slice (some ⟨b,o,none⟩) n c] w fun e w'=>e=.returned (.tuple #[ruleV (ruleR ls).1,.int .i64 (ruleR ls).2])∧Below w.heap.size w w':=by
 by_cases h9:n=9
 ·subst h9
  obtain ⟨a0,a1,a2,a3,a4,a5,a6,a7,a8,rfl⟩:=nine hn
  by_cases h3:a3=[45]
  ·have:=ruleParse_9 b o c ⟨a0.toArray⟩ ⟨a1.toArray⟩ ⟨a2.toArray⟩ ⟨a3.toArray⟩ ⟨a4.toArray⟩ ⟨a5.toArray⟩ ⟨a6.toArray⟩ ⟨a7.toArray⟩ ⟨a8.toArray⟩ w hT hr.lt (hl a0 (by simp)) (hl a1 (by simp)) (hl a2 (by simp)) (hl a4 (by simp)) (hl a5 (by simp)) (hl a6 (by simp)) (hl a7 (by simp)) (hl a8 (by simp)) (by
    intro j s hj
    match j,hj with
    | 0,hj=>cases hj;exact hr.at_ 0 _ rfl
    | 1,hj=>cases hj;exact hr.at_ 1 _ rfl
    | 2,hj=>cases hj;exact hr.at_ 2 _ rfl
    | 3,hj=>cases hj;exact hr.at_ 3 _ rfl
    | 4,hj=>cases hj;exact hr.at_ 4 _ rfl
    | 5,hj=>cases hj;exact hr.at_ 5 _ rfl
    | 6,hj=>cases hj;exact hr.at_ 6 _ rfl
    | 7,hj=>cases hj;exact hr.at_ 7 _ rfl
    | 8,hj=>cases hj;exact hr.at_ 8 _ rfl) h3
   exact this
  ·have hR:ruleR [a0,a1,a2,a3,a4,a5,a6,a7,a8]=(RuleP.none,5):=if_neg h3
   rw [hR];exact ruleParse_x b o c ⟨a3.toArray⟩ w hr.lt (hr.at_ 3 _ rfl) h3
 ·rw [ruleR_n (by omega)]
  exact ruleParse_n _ n c w h9
end Go.Proofs.YtboagmbmmoomiaaGreatDoor
