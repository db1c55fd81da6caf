/-
  A source that is being made: its block and its four rows, all of the call's own; what a store, an append and an alloc leave as it was.
-/
import Derived.Test.YtciclddfhohieaaGreatDoorRelRows
import Derived.Test.YtciclddfhohieaaGreatDoorPCopies
set_option linter.unusedVariables false
set_option linter.unusedSimpArgs false
set_option maxRecDepth 100000
set_option maxHeartbeats 4000000
namespace Go.Proofs.YtciclddfhohieaaGreatDoor
open Go.RowKit Go.Shelf
theorem flatC_snoc {α:Type} (enc:α→Array Value) (l:List α) (x:α):flatC enc (l++[x])=flatC enc l++(enc x).toList:=by simp [flatC]
theorem own_form {B e k n:Nat} {v:Value} {xs:List Value} {W:World} (h:W.ownsRow B e k v n xs):∃p c,v=.slice p n c:=by
 rcases h.2 with ⟨rfl,h0⟩|⟨g,cap,cur,rfl,_⟩
 ·exact ⟨none,0,by rw [h0]⟩
 ·exact ⟨_,cap,rfl⟩
abbrev RuleO (B:Nat) (rs:List RuleP) (v:Value) (W:World):Prop:=OwnR 84 11 B rs.length (flatC RuleP.cells rs) v W
abbrev LinkO (B:Nat) (ls:List LinkP) (v:Value) (W:World):Prop:=OwnR 65 2 B ls.length (flatC LinkP.cells ls) v W
abbrev StrO (B:Nat) (ss:List (List UInt8)) (v:Value) (W:World):Prop:=OwnR 9 1 B ss.length (flatC encS ss) v W
abbrev EraO (B:Nat) (es:List EraP) (v:Value) (W:World):Prop:=OwnR 63 13 B es.length (flatC EraP.cells es) v W
abbrev ZoneO (B:Nat) (cur:List ZV) (v:Value) (W:World):Prop:=OwnR 52 2 B cur.length (flatC encZV cur) v W
def Low (L:Nat) (v:Value):Prop:=∀g,v.ownBlock=some g→g<L
theorem Low.mono {L L':Nat} {v:Value} (h:Low L v) (hL:L≤L'):Low L' v:=fun g hg=>Nat.lt_of_lt_of_le (h g hg) hL
structure SB (B g:Nat) (rs:List RuleP) (cur:List ZV) (ls:List LinkP) (ss:List (List UInt8)) (v1 zv v3 v4:Value) (W:World):Prop where
 out:Blk W g 28 #[v1,zv,v3,v4]
 rule:RuleO B rs v1 W
 zone:ZoneO B cur zv W
 link:LinkO B ls v3 W
 str:StrO B ss v4 W
 eras:∀q ∈ cur,EraO B q.1.1.eras q.1.2 W
section
variable {B g:Nat} {rs:List RuleP} {cur:List ZV} {ls:List LinkP} {ss:List (List UInt8)} {v1 zv v3 v4:Value} {W W':World}
theorem SB.below (h:SB B g rs cur ls ss v1 zv v3 v4 W) (hb:Below W.heap.size W W'):SB B g rs cur ls ss v1 zv v3 v4 W' :=
 ⟨h.out.below hb h.out.lt,h.rule.kept_ hb,h.zone.kept_ hb,h.link.kept_ hb,h.str.kept_ hb,fun q hq=>(h.eras q hq).kept_ hb⟩
theorem SB.far (h:SB B g rs cur ls ss v1 zv v3 v4 W) {q T j:Nat} {C:Array Value} (hq:Blk W q T C) (hT:84≠T∧52≠T∧65≠T∧9≠T∧63≠T) (hg:g≠q) (u:Value):SB B g rs cur ls ss v1 zv v3 v4 (W.setCell ⟨q,j,none⟩ u) :=
 ⟨h.out.far hg u,own_farT h.rule hq hT.1 _,own_farT h.zone hq hT.2.1 _,own_farT h.link hq hT.2.2.1 _,own_farT h.str hq hT.2.2.2.1 _,fun q hq'=>own_farT (h.eras q hq') hq hT.2.2.2.2 _⟩
theorem SB.src (h:SB B g rs cur ls ss v1 zv v3 v4 W):SrcIs W W.heap.size v1 zv v3 v4 (cur.map (·.1)) ⟨rs,cur.map (fun q=>q.1.1),ls,ss⟩ :=
 ⟨rows_of_own (by decide) (fun x=>(rule_cells x).1) h.rule,by
  have hz:=rows_of_own (by decide) (fun x=>(zone_cells x).1) h.zone;obtain ⟨p,c,rfl⟩:=own_form h.zone;exact RowsAt.map_ hz rfl,by simp only [List.map_map];rfl,fun q hq=>by
  obtain ⟨x,hx,rfl⟩:=List.mem_map.1 hq;exact rows_of_own (by decide) (fun x=>(eraOk_cells x).1) (h.eras x hx),rows_of_own (by decide) (fun x=>(link_cells x).1) h.link,rows_of_own (by decide) (fun x=>rfl) h.str⟩
theorem SB.none_ (hb:Blk W g 28 #[.slice none 0 0,.slice none 0 0,.slice none 0 0,.slice none 0 0]):SB B g [] [] [] [] (.slice none 0 0) (.slice none 0 0) (.slice none 0 0) (.slice none 0 0) W :=
 ⟨hb,World.ownsRow_nil ..,World.ownsRow_nil ..,World.ownsRow_nil ..,World.ownsRow_nil ..,fun q hq=>absurd hq List.not_mem_nil⟩
end
end Go.Proofs.YtciclddfhohieaaGreatDoor
