/-
  eraline.line: what it returns, or with what it panics.
-/
import Derived.Test.YtboagmbmmoomiaaGreatDoorEraHead
import Derived.Test.YtboagmbmmoomiaaGreatDoorRelAll
set_option linter.unusedVariables false
set_option maxRecDepth 100000
set_option maxHeartbeats 4000000
namespace Go.Proofs.YtboagmbmmoomiaaGreatDoor
open Go.RowKit
def ExV (P:Program) (ops:Array Oper) (C:World→Prop) (fin:Act→World→Prop):List Oper→Act→Prop
 | [],a=>∀w,C w→fin a w
 | o::l,a=>∃v,(∀w,C w→relOp P ops o a w fun u _=>u=v)∧ExV P ops C fin l (a.put o.dst v)
section
variable {P:Program} {ops:Array Oper} {C:World→Prop} {fin:Act→World→Prop}
theorem exV_of:∀(l:List Oper) (k:Nat) (U:List Value) (a:Act),ExV P ops C fin l a→∃ss,ss.length=l.length∧allLast ss∧relWalk P ops C fin l (ss.zip (List.replicate l.length [])) k [] U a
 | [],k,U,a,h=>⟨[],rfl,trivial,fun w hw _ _=>h w hw⟩
 | o::l,k,U,a,⟨v,h1,h2⟩=>by
  obtain ⟨ss,e1,e2,e3⟩:=exV_of l (k+1) U _ h2;exact ⟨.ex v::ss,by simp [e1],⟨trivial,e2⟩,fun w hC _=>h1 w hC,e3⟩
theorem wp_region_vals {id:Nat} {Q:Exit→Act→World→Prop} {a:Act} {w:World} {l:List Oper} (n:Nat) (C:World→Prop) (hm:P.follows .mixedOrders=true) (hB:relB l.toArray n (List.replicate n [])=true) (hn:(l.take n).length=n)
 (hC0:C w.drew) (hC:∀w w',C w→Below w.heap.size w w'→C w')
 (h:ExV P l.toArray C (fun a' w'=>wpList P l.toArray Q (l.drop n) a' w') (l.take n) a):(Code.region id l.toArray true).wp P Q a w:=by
 obtain ⟨ss,e1,e2,e3⟩:=exV_of _ 0 [] _ h;rw [hn] at e1 e3;exact wp_region_rel n (List.replicate n []) ss C hm hB (by simp) e1 hC0 hC e2 e3
theorem exV_ex {o:Oper} {l:List Oper} {v:Value} {a:Act} (hg:o.guard=none) (h1:∀w,C w→relAt P o a w fun u _=>u=v) (h2:∀K:Act→Prop,(∀a',ExV P ops C fin l a'→K a')→K (a.put o.dst v)):ExV P ops C fin (o::l) a :=
 ⟨v,fun w hC=>relOp_plain hg (h1 w hC),h2 _ fun _ h=>h⟩
theorem exV_end {a:Act} (h:∀w,C w→fin a w):ExV P ops C fin [] a:=h
end
end Go.Proofs.YtboagmbmmoomiaaGreatDoor
