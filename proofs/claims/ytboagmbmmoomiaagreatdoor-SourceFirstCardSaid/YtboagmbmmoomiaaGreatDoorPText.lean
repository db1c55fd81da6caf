/-
  printer.many and printer.zone: what each call returns.
  printer.zone: what the call returns.
  printer.Print: what the call returns.
-/
import Derived.Test.YtboagmbmmoomiaaGreatDoorPLink
import Derived.Test.YtboagmbmmoomiaaGreatDoorEraParse
import Derived.Test.YtboagmbmmoomiaaGreatDoorRuleAll
import Derived.Shelf.Strings.OnBuilder
set_option linter.unusedVariables false
set_option maxRecDepth 100000
set_option maxHeartbeats 4000000
namespace Go.Proofs.YtboagmbmmoomiaaGreatDoor
open Go.RowKit Go.Shelf
def encZ (q:ZoneP × Value):Array Value:=#[.string ⟨q.1.name.toArray⟩,q.2]
def encS (s:List UInt8):Array Value:=#[.string ⟨s.toArray⟩]
def SrcIs (w:World) (n₀:Nat) (r z l h:Value) (zs:List (ZoneP × Value)) (s:SourceP):Prop :=
 RowsAt w n₀ 11 RuleP.cells r s.rules∧RowsAt w n₀ 2 encZ z zs∧zs.map (·.1)=s.zones∧(∀q ∈ zs,RowsAt w n₀ 13 EraP.cells q.2 q.1.eras)∧RowsAt w n₀ 2 LinkP.cells l s.links∧RowsAt w n₀ 1 encS h s.shifts
theorem SrcIs.below {w W:World} {n₀:Nat} {r z l h:Value} {zs:List (ZoneP × Value)} {s:SourceP} (k:SrcIs w n₀ r z l h zs s) (hb:Below n₀ w W):SrcIs W n₀ r z l h zs s :=
 ⟨k.1.below hb,k.2.1.below hb,k.2.2.1,fun q hq=>(k.2.2.2.1 q hq).below hb,k.2.2.2.2.1.below hb,k.2.2.2.2.2.below hb⟩
theorem RowsAt.mono {α:Type} {w:World} {n₀ n₁ k:Nat} {enc:α→Array Value} {sl:Value} {l:List α} (h:RowsAt w n₀ k enc sl l) (hn:n₀≤n₁):RowsAt w n₁ k enc sl l:=by
 obtain ⟨p,c,e,h2⟩:=h;refine ⟨p,c,e,fun h0=>?_⟩;obtain ⟨b,o,e2,hlt,h3⟩:=h2 h0;exact ⟨b,o,e2,Nat.lt_of_lt_of_le hlt hn,h3⟩
theorem RowsAt.slice {α:Type} {w:World} {n₀ k:Nat} {enc:α→Array Value} {sl:Value} {l:List α} (h:RowsAt w n₀ k enc sl l):∃p c,sl=.slice p l.length c:=by
 obtain ⟨p,c,e,_⟩:=h;exact ⟨p,c,e⟩
theorem endsB_iff:∀l:List EraP,endsB l=true ↔ ∀(j:Nat) (e:EraP),l[j]? = some e→e.til.is=decide (j+1≠l.length)
 | []=>by simp [endsB]
 | [e]=>by
  simp only [endsB,List.length_singleton];refine ⟨fun h j x hx=>?_,fun h=>?_⟩
  ·match j,hx with
   | 0,hx=>cases hx;simpa using h
   | j+1,hx=>simp at hx
  ·have:=h 0 e rfl
   simpa using this
 | e::f::l=>by
  have ih:=endsB_iff (f::l);simp only [endsB,Bool.and_eq_true];rw [ih];refine ⟨fun ⟨h1,h2⟩ j x hx=>?_,fun h=>⟨?_,fun j x hx=>?_⟩⟩
  ·match j,hx with
   | 0,hx=>cases hx;simp [h1]
   | j+1,hx =>
    have:=h2 j x (by simpa using hx);rw [this];simp only [List.length_cons];exact decide_eq_decide.2 (by omega)
  ·have:=h 0 e rfl
   simpa using this
  ·have:=h (j+1) x (by simpa using hx)
   rw [this];simp only [List.length_cons];exact decide_eq_decide.2 (by omega)
theorem joinB_eq (sep:List UInt8):∀l:List (List UInt8),joinB sep l=Lib.join l sep
 | []=>rfl
 | [a]=>by rw [Lib.join_one];rfl
 | a::b::l=>by
  show a++sep++joinB sep (b::l)=_
  rw [joinB_eq sep (b::l),Lib.join_cons,Lib.join_cons]
  simp [Lib.joinTail]
theorem join_le (sep:List UInt8) (m:Nat):∀l:List (List UInt8),(∀a ∈ l,a.length≤m)→(Lib.join l sep).length≤l.length*(m+sep.length):=fun l h=>by
 cases l with
 | nil=>simp [Lib.join_nil]
 | cons a l =>
  rw [Lib.join_cons,List.length_append,List.length_cons];have h1:=h a (List.mem_cons_self ..)
  have h2:∀l:List (List UInt8),(∀a ∈ l,a.length≤m)→(Lib.joinTail sep l).length≤l.length*(m+sep.length):=fun l=>by
   induction l with
   | nil=>intro _;simp [Lib.joinTail]
   | cons b l ih =>
    intro hl;have:=ih fun x hx=>hl x (List.mem_cons_of_mem _ hx)
    have hb:=hl b (List.mem_cons_self ..);simp only [Lib.joinTail,List.map_cons,List.flatten_cons,List.length_append,List.length_cons] at this ⊢;rw [Nat.succ_mul]
    omega
  have:=h2 l fun x hx=>h x (List.mem_cons_of_mem _ hx)
  rw [Nat.succ_mul]
  omega
theorem eraOk_cells (e:EraP):e.cells.size=13∧e.cells.all (·.oneCell')=true:=⟨rfl,by simp [EraP.cells,Value.oneCell']⟩
theorem rule_cells (r:RuleP):r.cells.size=11∧r.cells.all (·.oneCell')=true:=⟨rfl,by simp [RuleP.cells,Value.oneCell']⟩
theorem link_cells (r:LinkP):r.cells.size=2∧r.cells.all (·.oneCell')=true:=⟨rfl,by simp [LinkP.cells,Value.oneCell']⟩
abbrev ZV := { q:ZoneP × Value // ∃p c,q.2=.slice p q.1.eras.length c }
def encZV (q:ZV):Array Value:=encZ q.1
theorem zone_cells (q:ZV):(encZV q).size=2∧(encZV q).all (·.oneCell')=true:=by
 obtain ⟨⟨z,v⟩,p,c,hv⟩:=q;simp only at hv;subst hv;exact ⟨rfl,by simp [encZV,encZ,Value.oneCell']⟩
theorem RowsAt.unmap {α β:Type} {w:World} {n k:Nat} {enc:α→Array Value} {sl:Value} (g:β→α) (l:List β) (h:RowsAt w n k enc sl (l.map g)):RowsAt w n k (fun x=>enc (g x)) sl l:=by
 obtain ⟨p,c,e,h2⟩:=h;refine ⟨p,c,by rw [e,List.length_map],fun h0=>?_⟩;obtain ⟨b,o,e2,hlt,h3⟩:=h2 (by simpa using h0);exact ⟨b,o,e2,hlt,fun i x hx=>h3 i (g x) (by rw [List.getElem?_map,hx];rfl)⟩
def PSt (w:World) (C:Array Value) (W:World):Prop:=Blk W w.heap.size 30 C∧Below w.heap.size w W
theorem PSt.below {w W W':World} {C:Array Value} (h:PSt w C W) (hb:Below (w.heap.size+1) W W'):PSt w C W' :=
 ⟨h.1.below hb (by omega),h.2.trans (hb.mono (by omega))⟩
end Go.Proofs.YtboagmbmmoomiaaGreatDoor
