/-
  A source that is being made: its block and its four rows, all of the call's own; what a store, an append and an alloc leave as it was.
-/
import Derived.Test.YtboagmbmmoomiaaGreatDoorRelRows
import Derived.Test.YtboagmbmmoomiaaGreatDoorPCopies
set_option linter.unusedVariables false
set_option linter.unusedSimpArgs false
set_option maxRecDepth 100000
set_option maxHeartbeats 4000000
namespace Go.Proofs.YtboagmbmmoomiaaGreatDoor
open Go.RowKit Go.Shelf
theorem flatC_snoc {α:Type} (enc:α→Array Value) (l:List α) (x:α):flatC enc (l++[x])=flatC enc l++(enc x).toList:=by simp [flatC]
theorem own_form {B e k n:Nat} {v:Value} {xs:List Value} {W:World} (h:W.ownsRow B e k v n xs):∃p c,v=.slice p n c:=by
 rcases h.2 with ⟨rfl,h0⟩|⟨g,cap,cur,rfl,_⟩
 ·exact ⟨none,0,by rw [h0]⟩
 ·exact ⟨_,cap,rfl⟩
abbrev RuleO (B:Nat) (rs:List RuleP) (v:Value) (W:World):Prop:=OwnR 55 11 B rs.length (flatC RuleP.cells rs) v W
abbrev LinkO (B:Nat) (ls:List LinkP) (v:Value) (W:World):Prop:=OwnR 64 2 B ls.length (flatC LinkP.cells ls) v W
abbrev StrO (B:Nat) (ss:List (List UInt8)) (v:Value) (W:World):Prop:=OwnR 9 1 B ss.length (flatC encS ss) v W
abbrev EraO (B:Nat) (es:List EraP) (v:Value) (W:World):Prop:=OwnR 62 13 B es.length (flatC EraP.cells es) v W
abbrev ZoneO (B:Nat) (cur:List ZV) (v:Value) (W:World):Prop:=OwnR 58 2 B cur.length (flatC encZV cur) v W
abbrev GRule (B:Nat) (rs:List RuleP) (v:Value):World→World→Prop:=GOwn 55 11 B rs.length (flatC RuleP.cells rs) v
abbrev GLink (B:Nat) (ls:List LinkP) (v:Value):World→World→Prop:=GOwn 64 2 B ls.length (flatC LinkP.cells ls) v
abbrev GStr (B:Nat) (ss:List (List UInt8)) (v:Value):World→World→Prop:=GOwn 9 1 B ss.length (flatC encS ss) v
def Low (L:Nat) (v:Value):Prop:=∀g,v.ownBlock=some g→g<L
theorem low_of {B e k n:Nat} {v:Value} {xs:List Value} {W:World} (h:W.ownsRow B e k v n xs):Low W.heap.size v:=fun g hg=>(h.lt g hg).2
theorem Low.mono {L L':Nat} {v:Value} (h:Low L v) (hL:L≤L'):Low L' v:=fun g hg=>Nat.lt_of_lt_of_le (h g hg) hL
theorem lastsG_one {e k B n e' L:Nat} {xs:List Value} {C:Array Value} {v:Value} (hL:Low L v):LastsG (GOwn e k B n xs v) (One e' L C):=fun u w w' hG ⟨g,h1,h2,h3⟩=>⟨g,h1,(hG.1.block g h2.lt (fun hh=>by have:=hL g hh.symm;omega)).trans h2,h3⟩
theorem own_up {e k B n L m e' k':Nat} {xs cs:List Value} {u v:Value} {w w':World} (h:w.ownsRow B e k u n xs) (hu:Low L u) (hv:w.ownsRow L e' k' v m cs) (hG:w.grownBy w' v.ownBlock):w'.ownsRow B e k u n xs :=
 World.ownsRow.kept h hG (by
  cases hh:u.ownBlock with
  | none=>exact .inl rfl
  | some a =>
   refine .inr fun hx=>?_
   have h1:=own_base hv a hx.symm;have h2:=hu a hh
   omega)
structure SB (B g:Nat) (rs:List RuleP) (cur:List ZV) (ls:List LinkP) (ss:List (List UInt8)) (v1 zv v3 v4:Value) (W:World):Prop where
 out:Blk W g 30 #[v1,zv,v3,v4]
 rule:RuleO B rs v1 W
 zone:ZoneO B cur zv W
 link:LinkO B ls v3 W
 str:StrO B ss v4 W
 eras:∀q ∈ cur,EraO B q.1.1.eras q.1.2 W
section
variable {B g:Nat} {rs:List RuleP} {cur:List ZV} {ls:List LinkP} {ss:List (List UInt8)} {v1 zv v3 v4:Value} {W W':World}
theorem SB.below (h:SB B g rs cur ls ss v1 zv v3 v4 W) (hb:Below W.heap.size W W'):SB B g rs cur ls ss v1 zv v3 v4 W' :=
 ⟨h.out.below hb h.out.lt,h.rule.kept_ hb,h.zone.kept_ hb,h.link.kept_ hb,h.str.kept_ hb,fun q hq=>(h.eras q hq).kept_ hb⟩
theorem SB.grule (h:SB B g rs cur ls ss v1 zv v3 v4 W) (hg:GRule B rs v1 W W'):SB B g rs cur ls ss v1 zv v3 v4 W' :=
 ⟨blk_grown h.out hg.1 h.rule (by decide),hg.2 h.rule,h.zone.kept hg.1 (own_apart h.zone h.rule (by decide)),h.link.kept hg.1 (own_apart h.link h.rule (by decide)),h.str.kept hg.1 (own_apart h.str h.rule (by decide)),fun q hq=>(h.eras q hq).kept hg.1 (own_apart (h.eras q hq) h.rule (by decide))⟩
theorem SB.glink (h:SB B g rs cur ls ss v1 zv v3 v4 W) (hg:GLink B ls v3 W W'):SB B g rs cur ls ss v1 zv v3 v4 W' :=
 ⟨blk_grown h.out hg.1 h.link (by decide),h.rule.kept hg.1 (own_apart h.rule h.link (by decide)),h.zone.kept hg.1 (own_apart h.zone h.link (by decide)),hg.2 h.link,h.str.kept hg.1 (own_apart h.str h.link (by decide)),fun q hq=>(h.eras q hq).kept hg.1 (own_apart (h.eras q hq) h.link (by decide))⟩
theorem SB.gstr (h:SB B g rs cur ls ss v1 zv v3 v4 W) (hg:GStr B ss v4 W W'):SB B g rs cur ls ss v1 zv v3 v4 W' :=
 ⟨blk_grown h.out hg.1 h.str (by decide),h.rule.kept hg.1 (own_apart h.rule h.str (by decide)),h.zone.kept hg.1 (own_apart h.zone h.str (by decide)),h.link.kept hg.1 (own_apart h.link h.str (by decide)),hg.2 h.str,fun q hq=>(h.eras q hq).kept hg.1 (own_apart (h.eras q hq) h.str (by decide))⟩
theorem SB.srule (h:SB B g rs cur ls ss v1 zv v3 v4 W) {x:RuleP} {u:Value} (hu:RuleO B (rs++[x]) u W):SB B g (rs++[x]) cur ls ss u zv v3 v4 (W.setCell ⟨g,0,none⟩ u) :=
 ⟨h.out.set_ 0 u,own_farT hu h.out (by decide) _,own_farT h.zone h.out (by decide) _,own_farT h.link h.out (by decide) _,own_farT h.str h.out (by decide) _,fun q hq=>own_farT (h.eras q hq) h.out (by decide) _⟩
theorem SB.slink (h:SB B g rs cur ls ss v1 zv v3 v4 W) {x:LinkP} {u:Value} (hu:LinkO B (ls++[x]) u W):SB B g rs cur (ls++[x]) ss v1 zv u v4 (W.setCell ⟨g,2,none⟩ u) :=
 ⟨h.out.set_ 2 u,own_farT h.rule h.out (by decide) _,own_farT h.zone h.out (by decide) _,own_farT hu h.out (by decide) _,own_farT h.str h.out (by decide) _,fun q hq=>own_farT (h.eras q hq) h.out (by decide) _⟩
theorem SB.sstr (h:SB B g rs cur ls ss v1 zv v3 v4 W) {x:List UInt8} {u:Value} (hu:StrO B (ss++[x]) u W):SB B g rs cur ls (ss++[x]) v1 zv v3 u (W.setCell ⟨g,3,none⟩ u) :=
 ⟨h.out.set_ 3 u,own_farT h.rule h.out (by decide) _,own_farT h.zone h.out (by decide) _,own_farT h.link h.out (by decide) _,own_farT hu h.out (by decide) _,fun q hq=>own_farT (h.eras q hq) h.out (by decide) _⟩
theorem SB.far (h:SB B g rs cur ls ss v1 zv v3 v4 W) {q T j:Nat} {C:Array Value} (hq:Blk W q T C) (hT:55≠T∧58≠T∧64≠T∧9≠T∧62≠T) (hg:g≠q) (u:Value):SB B g rs cur ls ss v1 zv v3 v4 (W.setCell ⟨q,j,none⟩ u) :=
 ⟨h.out.far hg u,own_farT h.rule hq hT.1 _,own_farT h.zone hq hT.2.1 _,own_farT h.link hq hT.2.2.1 _,own_farT h.str hq hT.2.2.2.1 _,fun q hq'=>own_farT (h.eras q hq') hq hT.2.2.2.2 _⟩
theorem SB.src (h:SB B g rs cur ls ss v1 zv v3 v4 W):SrcIs W W.heap.size v1 zv v3 v4 (cur.map (·.1)) ⟨rs,cur.map (fun q=>q.1.1),ls,ss⟩ :=
 ⟨rows_of_own (by decide) (fun x=>(rule_cells x).1) h.rule,by
  have hz:=rows_of_own (by decide) (fun x=>(zone_cells x).1) h.zone;obtain ⟨p,c,rfl⟩:=own_form h.zone;exact RowsAt.map_ hz rfl,by simp only [List.map_map];rfl,fun q hq=>by
  obtain ⟨x,hx,rfl⟩:=List.mem_map.1 hq;exact rows_of_own (by decide) (fun x=>(eraOk_cells x).1) (h.eras x hx),rows_of_own (by decide) (fun x=>(link_cells x).1) h.link,rows_of_own (by decide) (fun x=>rfl) h.str⟩
theorem SB.none_ (hb:Blk W g 30 #[.slice none 0 0,.slice none 0 0,.slice none 0 0,.slice none 0 0]):SB B g [] [] [] [] (.slice none 0 0) (.slice none 0 0) (.slice none 0 0) (.slice none 0 0) W :=
 ⟨hb,World.ownsRow_nil ..,World.ownsRow_nil ..,World.ownsRow_nil ..,World.ownsRow_nil ..,fun q hq=>absurd hq List.not_mem_nil⟩
end
end Go.Proofs.YtboagmbmmoomiaaGreatDoor
