/-
  The lines of a source of layer 13 and their numbers.
-/
import Derived.Test.YtboagmbmmoomiaaGreatDoorTreeLn
set_option linter.unusedVariables false
set_option linter.unusedSimpArgs false
set_option maxRecDepth 100000
set_option maxHeartbeats 4000000
namespace Go.Proofs.YtboagmbmmoomiaaGreatDoor
open Go.Lib (hid)
open Go.RowKit Go.Shelf
theorem nums_snoc (k:Nat):∀(j:Nat) (n:Int),nums n k (j+1)=nums n k j++[n+((k*j:Nat):Int)]
 | 0,n=>by simp [nums]
 | j+1,n=>by
  have ih:=nums_snoc k j (n+k);have h:n+(k:Int)+((k*j:Nat):Int)=n+((k*(j+1):Nat):Int):=by rw [Nat.mul_succ];omega
  rw [nums,ih,h,nums,List.cons_append]
theorem numss_snoc (k:Nat):∀(l:List Nat) (j:Nat) (n:Int),numss n k (l++[j])=numss n k l++[nums (n+((k*l.sum:Nat):Int)) k j]
 | [],j,n=>by simp [numss]
 | a::l,j,n=>by
  have ih:=numss_snoc k l j (n+((k*a:Nat):Int));have h:n+((k*a:Nat):Int)+((k*l.sum:Nat):Int)=n+((k*(a::l).sum:Nat):Int):=by rw [List.sum_cons,Nat.mul_add];omega
  rw [List.cons_append,numss,ih,h,numss,List.cons_append]
structure OutIs (g:Nat) (out:List (List UInt8)) (F:List (List (List UInt8))):Prop where
 are:LinesAre out (spread g F)
 len:out.length=(g+1)*F.length
theorem OutIs.nil (g:Nat):OutIs g [] []:=⟨.nil,by simp⟩
theorem are_pads:∀(ps:List (List UInt8)),(∀p ∈ ps,LineIs p [])→LinesAre ps (List.replicate ps.length [])
 | [],_=>.nil
 | p::ps,h=>.cons (h p (List.mem_cons_self ..)) (are_pads ps fun q hq=>h q (List.mem_cons_of_mem _ hq))
theorem OutIs.add {g:Nat} {out ps:List (List UInt8)} {F:List (List (List UInt8))} {x:List UInt8} {f:List (List UInt8)} (h:OutIs g out F) (hx:LineIs x f) (hl:ps.length=g) (hp:∀p ∈ ps,LineIs p []):OutIs g (out++x::ps) (F++[f]):=by
 refine ⟨?_,?_⟩
 ·rw [spread_app]
  refine h.are.app ?_;have:=LinesAre.cons hx (are_pads ps hp);rw [hl] at this
  simpa [spread] using this
 ·rw [List.length_append,List.length_append,h.len]
  simp only [List.length_cons,List.length_nil,hl,Nat.mul_add]
  omega
theorem Rows.add {B bo:Nat} {l:List Row} {W W':World} (h:Rows B l W) {i:Nat} {r r':Row} (hi:l[i]? = some r) (ha:AddR bo r.v.ownBlock W W') (hbo:bo<B) (ho:r'.own B W') (he:r'.e=r.e) (hv:Renewed W.heap.size r.v r'.v):Rows B (l.set i r') W':=by
 have hr:∀(j:Nat) s,j≠i→l[j]? = some s→s.v.ownBlock=none∨s.v.ownBlock≠r.v.ownBlock:=fun j s hj hs=>rows_other (h.own s (List.mem_of_getElem? hs)) (h.own r (List.mem_of_getElem? hi)) (rows_ne h.apart hs hi hj)
 refine ⟨fun s hs=>?_,pairwise_set h.apart fun j s hj hs=>?_⟩
 ·rcases mem_set_ hs with rfl|⟨j,hj,hs⟩
  ·exact ho
  ·have h1:=h.own s (List.mem_of_getElem? hs)
   exact own_add ha h1 (fun hh=>by have:=own_base h1 bo hh;omega) (hr j s hj hs)
 ·rcases hr j s hj hs with h1|h1
  ·exact .inr (.inl h1)
  ·rcases hv with h2|⟨g,h2,h3⟩
   ·exact .inr (.inr (by rw [h2];exact h1))
   ·refine .inr (.inr fun hh=>?_)
    rw [h2] at hh;have:=h.low s (List.mem_of_getElem? hs) g hh
    omega
theorem Rows.farB {B q j:Nat} {l:List Row} {W:World} (h:Rows B l W) (hq:q<B) (u:Value):Rows B l (W.setCell ⟨q,j,none⟩ u):=⟨fun r hr=>own_farN_ (h.own r hr) (fun hh=>by have:=own_base (h.own r hr) q hh;omega) u,h.apart⟩
theorem AddR.low {bo B:Nat} {o:Option Nat} {W W':World} (h:AddR bo o W W') (hbo:B≤bo) (ho:∀g,o=some g→B≤g) (hB:B≤W.heap.size):Below B W W':=⟨h.os,h.tape,h.output,h.size,fun j hj=>h.block j (by omega) (by omega) (fun hh=>by have:=ho j hh.symm;omega)⟩
def lnRows (out:List (List UInt8)) (vo:Value) (n0 n2 n3:List Int) (el:List IV) (u1 u2 u3 u4:Value) (cl:List Int) (cv:Value):List Row:=[rStr out vo,rInt n0 u1,rIrow el u2,rInt n2 u3,rInt n3 u4,rInt cl cv]++el.map (fun q=>rInt q.2 q.1)
structure LT (w:World) (sc:Array Value) (g gs gg gr bo ga:Nat) (out:List (List UInt8)) (vo:Value) (n0 n2 n3:List Int) (el:List IV) (u1 u2 u3 u4:Value) (cl:List Int) (cv:Value) (W:World):Prop where
 src:Blk W gs 30 sc
 gap:Blk W gg 3 #[.int .i64 (g:Int)]
 res:Blk W gr 35 #[.slice none 0 0,.slice none 0 0,.slice none 0 0,.slice none 0 0]
 box:Blk W bo 28 #[vo]
 atb:Blk W ga 35 #[u1,u2,u3,u4]
 rows:Rows (ga+1) (lnRows out vo n0 n2 n3 el u1 u2 u3 u4 cl cv) W
 bel:Below gs w W
 le:gs<gg∧gg<gr∧gr<bo∧bo<ga
section
variable {w W W':World} {sc:Array Value} {g gs gg gr bo ga L:Nat} {out ps:List (List UInt8)} {x:List UInt8} {vo u:Value} {n0 n2 n3 cl:List Int} {el:List IV} {u1 u2 u3 u4 cv:Value} {n:Int}
theorem LT.below (h:LT w sc g gs gg gr bo ga out vo n0 n2 n3 el u1 u2 u3 u4 cl cv W) (hb:Below W.heap.size W W'):LT w sc g gs gg gr bo ga out vo n0 n2 n3 el u1 u2 u3 u4 cl cv W' :=
 ⟨h.src.below hb h.src.lt,h.gap.below hb h.gap.lt,h.res.below hb h.res.lt,h.box.below hb h.box.lt,h.atb.below hb h.atb.lt,h.rows.below hb,h.bel.trans (hb.mono (Nat.le_of_lt h.src.lt)),h.le⟩
theorem blk_base {B e k m q T:Nat} {v:Value} {xs:List Value} {C:Array Value} (hb:Blk W q T C) (hg:W.grownBy W' v.ownBlock) (ho:W.ownsRow B e k v m xs) (hq:q<B):Blk W' q T C:=(hg.block q hb.lt (fun hh=>by have:=own_base ho q hh.symm;omega)).trans hb
theorem LT.grow (h:LT w sc g gs gg gr bo ga out vo n0 n2 n3 el u1 u2 u3 u4 cl cv W) {i:Nat} {r:Row} (hi:(lnRows out vo n0 n2 n3 el u1 u2 u3 u4 cl cv)[i]? = some r) (hg:GOwn r.e r.k (ga+1) r.n r.xs r.v W W'):LT w sc g gs gg gr bo ga out vo n0 n2 n3 el u1 u2 u3 u4 cl cv W':=by
 have ho:=h.rows.own r (List.mem_of_getElem? hi);have hl:=h.le;exact ⟨blk_base h.src hg.1 ho (by omega),blk_base h.gap hg.1 ho (by omega),blk_base h.res hg.1 ho (by omega),blk_base h.box hg.1 ho (by omega),blk_base h.atb hg.1 ho (by omega),h.rows.kept hi hg,h.bel.grown hg.1 (Nat.le_of_lt h.src.lt) (fun k hk=>by have:=own_base ho k hk;omega),h.le⟩
theorem LT.put0 (h:LT w sc g gs gg gr bo ga out vo n0 n2 n3 el u1 u2 u3 u4 cl cv W) (hu:(rInt (n0++[n]) u).own (ga+1) W) (hr:Renewed L u1 u) (hlow:LowRows L (lnRows out vo n0 n2 n3 el u1 u2 u3 u4 cl cv)):LT w sc g gs gg gr bo ga out vo (n0++[n]) n2 n3 el u u2 u3 u4 cl cv (W.setCell ⟨ga,0,none⟩ u):=by
 have hl:=h.le;exact ⟨h.src.far (by show gs≠ga;omega) u,h.gap.far (by show gg≠ga;omega) u,h.res.far (by show gr≠ga;omega) u,h.box.far (by show bo≠ga;omega) u,h.atb.set_ 0 u,(h.rows.put_ (i:=1) rfl hu rfl hr (fun s hs _=>hlow s hs)).farB (by omega) u,h.bel.setCell (by show gs≤ga;omega) u,h.le⟩
theorem LT.put2 (h:LT w sc g gs gg gr bo ga out vo n0 n2 n3 el u1 u2 u3 u4 cl cv W) (hu:(rInt (n2++[n]) u).own (ga+1) W) (hr:Renewed L u3 u) (hlow:LowRows L (lnRows out vo n0 n2 n3 el u1 u2 u3 u4 cl cv)):LT w sc g gs gg gr bo ga out vo n0 (n2++[n]) n3 el u1 u2 u u4 cl cv (W.setCell ⟨ga,2,none⟩ u):=by
 have hl:=h.le;exact ⟨h.src.far (by show gs≠ga;omega) u,h.gap.far (by show gg≠ga;omega) u,h.res.far (by show gr≠ga;omega) u,h.box.far (by show bo≠ga;omega) u,h.atb.set_ 2 u,(h.rows.put_ (i:=3) rfl hu rfl hr (fun s hs _=>hlow s hs)).farB (by omega) u,h.bel.setCell (by show gs≤ga;omega) u,h.le⟩
theorem LT.put3 (h:LT w sc g gs gg gr bo ga out vo n0 n2 n3 el u1 u2 u3 u4 cl cv W) (hu:(rInt (n3++[n]) u).own (ga+1) W) (hr:Renewed L u4 u) (hlow:LowRows L (lnRows out vo n0 n2 n3 el u1 u2 u3 u4 cl cv)):LT w sc g gs gg gr bo ga out vo n0 n2 (n3++[n]) el u1 u2 u3 u cl cv (W.setCell ⟨ga,3,none⟩ u):=by
 have hl:=h.le;exact ⟨h.src.far (by show gs≠ga;omega) u,h.gap.far (by show gg≠ga;omega) u,h.res.far (by show gr≠ga;omega) u,h.box.far (by show bo≠ga;omega) u,h.atb.set_ 3 u,(h.rows.put_ (i:=4) rfl hu rfl hr (fun s hs _=>hlow s hs)).farB (by omega) u,h.bel.setCell (by show gs≤ga;omega) u,h.le⟩
theorem LT.putC (h:LT w sc g gs gg gr bo ga out vo n0 n2 n3 el u1 u2 u3 u4 cl cv W) (hg:W.grownBy W' cv.ownBlock) (hu:(rInt (cl++[n]) u).own (ga+1) W') (hr:Renewed L cv u) (hL:W.heap.size≤L):LT w sc g gs gg gr bo ga out vo n0 n2 n3 el u1 u2 u3 u4 (cl++[n]) u W':=by
 have ho:=h.rows.own (rInt cl cv) (List.mem_of_getElem? (i:=5) rfl);have hl:=h.le;exact ⟨blk_base h.src hg ho (by omega),blk_base h.gap hg ho (by omega),blk_base h.res hg ho (by omega),blk_base h.box hg ho (by omega),blk_base h.atb hg ho (by omega),h.rows.put hL (i:=5) (r:=rInt cl cv) rfl hg hu rfl hr,h.bel.grown hg (Nat.le_of_lt h.src.lt) (fun k hk=>by have:=own_base ho k hk;omega),h.le⟩
theorem LT.putE (h:LT w sc g gs gg gr bo ga out vo n0 n2 n3 el u1 u2 u3 u4 cl cv W) (hg:W.grownBy W' u2.ownBlock) (hu:(rIrow (el++[(cv,cl)]) u).own (ga+1) W') (hr:Renewed L u2 u) (hL:W.heap.size≤L):LT w sc g gs gg gr bo ga out vo n0 n2 n3 (el++[(cv,cl)]) u1 u u3 u4 [] (.slice none 0 0) (W'.setCell ⟨ga,1,none⟩ u):=by
 have ho:=h.rows.own (rIrow el u2) (List.mem_of_getElem? (i:=2) rfl);have hl:=h.le;have h1:=h.rows.put hL (i:=2) (r:=rIrow el u2) rfl hg hu rfl hr
 have h2:Rows (ga+1) (lnRows out vo n0 n2 n3 (el++[(cv,cl)]) u1 u u3 u4 [] (.slice none 0 0)) W':=by
  refine (h1.push (e:=3) (k:=1)).perm ?_
  show ([rStr out vo,rInt n0 u1,rIrow (el++[(cv,cl)]) u,rInt n2 u3,rInt n3 u4,rInt cl cv]++el.map (fun q=>rInt q.2 q.1)++[rInt [] (.slice none 0 0)]).Perm ([rStr out vo,rInt n0 u1,rIrow (el++[(cv,cl)]) u,rInt n2 u3,rInt n3 u4,rInt [] (.slice none 0 0)]++(el++[(cv,cl)]).map (fun q=>rInt q.2 q.1))
  rw [List.map_append];simp only [List.map_cons,List.map_nil,List.cons_append,List.nil_append];refine List.Perm.cons _ (List.Perm.cons _ (List.Perm.cons _ (List.Perm.cons _ (List.Perm.cons _ ?_))));refine (List.perm_append_comm (l₁:=rInt cl cv::el.map (fun q=>rInt q.2 q.1))).trans ?_;simp only [List.cons_append,List.nil_append];refine List.Perm.cons _ ?_;exact (List.perm_append_comm (l₁:=[rInt cl cv]))
 exact ⟨(blk_base h.src hg ho (by omega)).far (by show gs≠ga;omega) u,(blk_base h.gap hg ho (by omega)).far (by show gg≠ga;omega) u,(blk_base h.res hg ho (by omega)).far (by show gr≠ga;omega) u,(blk_base h.box hg ho (by omega)).far (by show bo≠ga;omega) u,(blk_base h.atb hg ho (by omega)).set_ 1 u,h2.farB (by omega) u,(h.bel.grown hg (Nat.le_of_lt h.src.lt) (fun k hk=>by have:=own_base ho k hk;omega)).setCell (by show gs≤ga;omega) u,h.le⟩
theorem LT.add (h:LT w sc g gs gg gr bo ga out vo n0 n2 n3 el u1 u2 u3 u4 cl cv W) (ha:AS W (ga+1) bo gg g vo (out++x::ps) u W'):LT w sc g gs gg gr bo ga (out++x::ps) u n0 n2 n3 el u1 u2 u3 u4 cl cv W':=by
 have ho:=h.rows.own (rStr out vo) (List.mem_of_getElem? (i:=0) rfl);have hl:=h.le;have hk:∀ {q T:Nat} {C:Array Value},Blk W q T C→q<ga+1→q≠bo→Blk W' q T C:=fun {q T C} hb hq hne=>(ha.rel.block q hb.lt hne (fun hh=>by have:=own_base ho q hh.symm;omega)).trans hb
 exact ⟨hk h.src (by omega) (by omega),hk h.gap (by omega) (by omega),hk h.res (by omega) (by omega),ha.box,hk h.atb (by omega) (by omega),h.rows.add (i:=0) (r:=rStr out vo) rfl ha.rel (by omega) (show (rStr (out++x::ps) u).own (ga+1) W' from ha.own) rfl ha.ren,h.bel.trans (ha.rel.low (by omega) (fun k hk=>by have:=own_base ho k hk;omega) (Nat.le_of_lt h.src.lt)),h.le⟩
end
def IntRow (B L:Nat) (v:Value) (M:List Int) (n:Int) (u:Value) (W:World):Prop:=GrownR 3 1 B L v (M.length+1) (flatC encI (M++[n])) u W
theorem IntRow.last {B L:Nat} {v:Value} {M:List Int} {n:Int} : Lasts (IntRow B L v M n):=fun u w w' hb h=>GrownR.last u w w' hb h
theorem takeS {α β:Type} (f:α→β) {l:List α} {k:Nat} {x:α} (hx:l[k]? = some x):(l.take (k+1)).map f=(l.take k).map f++[f x]:=by rw [List.take_add_one,hx];simp
theorem rows_nil6 (B:Nat) (W:World):Rows B (lnRows [] (.slice none 0 0) [] [] [] [] (.slice none 0 0) (.slice none 0 0) (.slice none 0 0) (.slice none 0 0) [] (.slice none 0 0)) W:=by
 refine ⟨fun r hr=>?_,?_⟩
 ·simp only [lnRows,List.map_nil,List.append_nil,List.mem_cons,List.not_mem_nil,or_false] at hr
  rcases hr with rfl|rfl|rfl|rfl|rfl|rfl<;>exact World.ownsRow_nil ..
 ·refine List.pairwise_iff_getElem.2 fun a b ha hb _=>.inr (.inl ?_)
  have:∀r ∈ lnRows [] (.slice none 0 0) [] [] [] [] (.slice none 0 0) (.slice none 0 0) (.slice none 0 0) (.slice none 0 0) [] (.slice none 0 0),r.v.ownBlock=none:=by
   intro r hr;simp only [lnRows,List.map_nil,List.append_nil,List.mem_cons,List.not_mem_nil,or_false] at hr
   rcases hr with rfl|rfl|rfl|rfl|rfl|rfl<;>rfl
  exact this _ (List.getElem_mem ha)
theorem nums_next {g k:Nat} {base:Int} {n0:List Int} {out:List (List UInt8)} (h:n0=nums base (g+1) k) (ho:(out.length:Int)+1=base+(((g+1)*k:Nat):Int)):n0++[(out.length:Int)+1]=nums base (g+1) (k+1):=by rw [nums_snoc,h,ho]
theorem out_num {g k:Nat} {out:List (List UInt8)} {α:Type} {f:α→List (List UInt8)} {l:List α} {F0:List (List (List UInt8))} (h:OutIs g out (F0++(l.take k).map f)) (hk:k≤l.length):(out.length:Int)+1=1+(((g+1)*F0.length:Nat):Int)+(((g+1)*k:Nat):Int):=by
 have:=h.len;simp only [List.length_append,List.length_map,List.length_take,Nat.min_eq_left hk] at this;rw [this,Nat.mul_add]
 omega
theorem out_le {g:Nat} {out:List (List UInt8)} {F:List (List (List UInt8))} (h:OutIs g out F) (hg:g≤3) (hF:F.length≤40):out.length≤160:=by
 rw [h.len];exact Nat.le_trans (Nat.mul_le_mul (show g+1≤4 by omega) hF) (by decide)
theorem fk_le {α:Type} {f:α→List (List UInt8)} {l:List α} {F0:List (List (List UInt8))} {k n m:Nat} (h0:F0.length≤n) (hk:k≤m):(F0++(l.take k).map f).length≤n+m:=by
 rw [List.length_append,List.length_map,List.length_take]
 omega
theorem zoneFs_at {z:ZoneP} {t:Nat} {x:EraP} (hx:z.eras[t]? = some x):(zoneFs z)[t]? = some (if t=0 then [90,111,110,101]::z.name::eraFs x else eraFs x):=by
 unfold zoneFs
 cases he:z.eras with
 | nil=>rw [he] at hx;simp at hx
 | cons e es =>
  rw [he] at hx
  cases t with
  | zero=>simp at hx;subst hx;simp
  | succ t=>simp at hx;simp [hx]
theorem take_app {α:Type} {l:List α} {k:Nat} {x:α} (hx:l[k]? = some x):l.take (k+1)=l.take k++[x]:=by rw [List.take_add_one,hx];rfl
theorem zones_len (zs:List ZoneP):(zs.flatMap zoneFs).length=(zs.map fun z=>z.eras.length).sum:=by
 induction zs with
 | nil=>rfl
 | cons z zs ih=>rw [List.flatMap_cons,List.length_append,zoneFs_len,List.map_cons,List.sum_cons,ih]
theorem zones_few {zs:List ZoneP} (h:∀z ∈ zs,z.eras.length≤3) (hl:zs.length≤3):(zs.flatMap zoneFs).length≤9:=by
 have:∀(l:List ZoneP),(∀z ∈ l,z.eras.length≤3)→(l.flatMap zoneFs).length≤3*l.length:=by
  intro l
  induction l with
  | nil=>intro _;simp
  | cons z l ih =>
   intro h;have h1:=ih fun y hy=>h y (List.mem_cons_of_mem _ hy)
   have h2:=h z (List.mem_cons_self ..);rw [List.flatMap_cons,List.length_append,zoneFs_len,List.length_cons]
   omega
 have:=this zs h
 omega
theorem bapp_ (a b:List UInt8):(⟨a.toArray⟩:ByteArray)++⟨b.toArray⟩=⟨(a++b).toArray⟩:=by
 apply ByteArray.ext
 simp [ByteArray.data_append]
theorem AS.blk {w w':World} {B bo bg g:Nat} {v u:Value} {M:List (List UInt8)} (has:AS w B bo bg g v M u w') {q T n:Nat} {C:Array Value} {xs:List Value} (hb:Blk w q T C) (hbox:Blk w bo 28 #[v]) (ho:w.ownsRow B 9 1 v n xs) (h1:T≠28) (h2:T≠9):Blk w' q T C :=
 (has.rel.block q hb.lt (fun hh=>h1 (rows_typ hb (by rw [hh];exact hbox))) (fun hh=>by
  rcases rows_blk ho with h4|⟨g4,C4,h4,h5,_⟩
  ·rw [←hh] at h4;cases h4
  ·rw [←hh] at h4
   obtain rfl:=Option.some.inj h4;exact h2 (rows_typ hb h5))).trans hb
theorem zone_parts_ {z:ZoneP} (h:zoneOk z=true):zoneB z.name=true∧∀e ∈ z.eras,eraOk e=true:=by
 unfold zoneOk at h;simp only [Bool.and_eq_true] at h;exact ⟨h.1.1.1,List.all_eq_true.1 h.2⟩
theorem out_num2 {g k:Nat} {out:List (List UInt8)} {l F0:List (List (List UInt8))} (h:OutIs g out (F0++l.take k)) (hk:k≤l.length):(out.length:Int)+1=1+(((g+1)*F0.length:Nat):Int)+(((g+1)*k:Nat):Int):=by
 have:=h.len;simp only [List.length_append,List.length_take,Nat.min_eq_left hk] at this;rw [this,Nat.mul_add]
 omega
theorem tlines_any (v1 zv v3 v4:Value) (zs:List (ZoneP × Value)) (s:SourceP) (g:Nat) (w:World) (hs:SrcIs w w.heap.size v1 zv v3 v4 zs s) (hr:SrcRight s) (hm1:s.rules.length≤4) (hm2:s.zones.length≤3) (hm3:∀z ∈ s.zones,z.eras.length≤3) (hm4:s.links.length≤3) (hm5:s.shifts.length≤2) (hg:g≤3)
 (hp1:∀x ∈ s.rules,∀W,Below w.heap.size w W→Calls Tryz.prog 16 #[.agg x.cells] W fun e w'=>e=.returned (.tuple #[.string ⟨(ruleT x).toArray⟩,.int .i64 0])∧Below W.heap.size W w')
 (hp2:∀z ∈ s.zones,∀x ∈ z.eras,∀W,Below w.heap.size w W→Calls Tryz.prog 17 #[.agg x.cells] W fun e w'=>e=.returned (.tuple #[.string ⟨(eraT x).toArray⟩,.int .i64 0])∧Below W.heap.size W w')
 (hp3:∀x ∈ s.links,∀W,Below w.heap.size w W→Calls Tryz.prog 18 #[.agg x.cells] W fun e w'=>e=.returned (.tuple #[.string ⟨(linkT x).toArray⟩,.int .i64 0])∧Below W.heap.size W w')
 (hp4:∀x ∈ s.shifts,∀W,Below w.heap.size w W→Calls Tryz.prog 19 #[.string ⟨x.toArray⟩] W fun e w'=>e=.returned (.tuple #[.string ⟨(shiftT x).toArray⟩,.int .i64 0])∧Below W.heap.size W w') :
 Calls Tryz.prog 5 #[.agg #[v1,zv,v3,v4],.int .i64 (g:Int)] w fun ex w'=>(∃(out:List (List UInt8)) (vo u1 u2 u3 u4:Value) (el:List IV),ex=.returned (.tuple #[vo,.agg #[u1,u2,u3,u4],.bool true])∧(∃B,StrO B out vo w')∧LnIs w' w'.heap.size u1 u2 u3 u4 el (srcNs (g+1) s)∧OutIs g out (srcFs s))∧Below w.heap.size w w':=by
 obtain ⟨iint,zint,hiint,hzint,hszint,hbyint,hzcint⟩:=info_st (P:=Tryz.prog) (e:=3) (k:=1) (by kernel_rfl);obtain ⟨iirow,zirow,hiirow,hzirow,hszirow,hbyirow,hzcirow⟩:=info_st (P:=Tryz.prog) (e:=32) (k:=1) (by kernel_rfl);obtain ⟨⟨p1,c1,rfl,hr1⟩,⟨p2,c2,rfl,hr2⟩,hzs,hz,⟨p3,c3,rfl,hr3⟩,⟨p4,c4,rfl,hr4⟩⟩:=hs;have HR1:=hid hr1;have HR2:=hid hr2;have HR3:=hid hr3;have HR4:=hid hr4;have HZS:=hid hzs;have HZ:=hid hz;have HRT:=hid hr;have HP1:=hid hp1;have HP2:=hid hp2;have HP3:=hid hp3;have HP4:=hid hp4;have HM3:=hid hm3;have hzl:zs.length≤3:=by have:=congrArg List.length hzs;rw [List.length_map] at this;omega
 have HZL:=hid (show zs.length=s.zones.length from by have:=congrArg List.length hzs;rwa [List.length_map] at this);have hB0:Below w.heap.size w (((((w.alloc (.cells #[.slice p1 s.rules.length c1,.slice p2 zs.length c2,.slice p3 s.links.length c3,.slice p4 s.shifts.length c4] 30)).alloc (.cells #[.int .i64 (g:Int)] 3)).alloc (.cells #[.slice none 0 0,.slice none 0 0,.slice none 0 0,.slice none 0 0] 35)).alloc (.cells #[.slice none 0 0] 28)).alloc (.cells #[.slice none 0 0,.slice none 0 0,.slice none 0 0,.slice none 0 0] 35)):=(((((Below.refl _ _).alloc (Nat.le_refl _) _).alloc (by simp) _).alloc (by simp;omega) _).alloc (by simp;omega) _).alloc (by simp;omega) _;have HS0:=hid (show LT w #[.slice p1 s.rules.length c1,.slice p2 zs.length c2,.slice p3 s.links.length c3,.slice p4 s.shifts.length c4] g w.heap.size (w.heap.size+1) (w.heap.size+1+1) (w.heap.size+1+1+1) (w.heap.size+1+1+1+1) [] (.slice none 0 0) [] [] [] [] (.slice none 0 0) (.slice none 0 0) (.slice none 0 0) (.slice none 0 0) [] (.slice none 0 0) (((((w.alloc (.cells #[.slice p1 s.rules.length c1,.slice p2 zs.length c2,.slice p3 s.links.length c3,.slice p4 s.shifts.length c4] 30)).alloc (.cells #[.int .i64 (g:Int)] 3)).alloc (.cells #[.slice none 0 0,.slice none 0 0,.slice none 0 0,.slice none 0 0] 35)).alloc (.cells #[.slice none 0 0] 28)).alloc (.cells #[.slice none 0 0,.slice none 0 0,.slice none 0 0,.slice none 0 0] 35)) from ⟨((((Blk.new' _ _ _ rfl).alloc _).alloc _).alloc _).alloc _,(((Blk.new' _ _ _ (by simp)).alloc _).alloc _).alloc _,((Blk.new' _ _ _ (by simp)).alloc _).alloc _,(Blk.new' _ _ _ (by simp)).alloc _,Blk.new' _ _ _ (by simp),rows_nil6 _ _,hB0,by omega⟩);clear hr1 hr2 hr3 hr4 hzs hz hr hp1 hp2 hp3 hp4 hm3 hB0
 go_enter Tryz.func5,Tryz.ntmps5
 go_upto_region 5 with fail
 generalize ((((w.alloc (.cells #[.slice p1 s.rules.length c1,.slice p2 zs.length c2,.slice p3 s.links.length c3,.slice p4 s.shifts.length c4] 30)).alloc (.cells #[.int .i64 (g:Int)] 3)).alloc (.cells #[.slice none 0 0,.slice none 0 0,.slice none 0 0,.slice none 0 0] 35)).alloc (.cells #[.slice none 0 0] 28)).alloc (.cells #[.slice none 0 0,.slice none 0 0,.slice none 0 0,.slice none 0 0] 35)=w0 at *;generalize hgs:w.heap.size=gs at *;have HGS:=hid hgs;clear hgs;generalize gs+1+1+1+1=ga at *;generalize gs+1+1+1=bo at *;generalize gs+1+1=gr at *;generalize gs+1=gg at *;have c0:=HS0.out.src.cell_ (i:=0) rfl
 go_upto_region 6 with fail
 clear c0;obtain ⟨bsr,hbs⟩:∃bs:Int,1+(((g+1)*([]:List (List (List UInt8))).length:Nat):Int)=bs:=⟨_,rfl⟩;have HBSr:=hid hbs.symm;clear hbs
 go_loopw [29] (fun i wr=>∃(k:Nat) (out:List (List UInt8)) (nnr:List Int) (vo uur:Value),k≤s.rules.length∧i=.int .i64 (k:Int)∧Hid (OutIs g out ([]++(s.rules.take k).map (fun x=>ruleB::ruleFs x)))∧Hid (nnr=nums bsr (g+1) k)∧Hid (LT w #[.slice p1 s.rules.length c1,.slice p2 zs.length c2,.slice p3 s.links.length c3,.slice p4 s.shifts.length c4] g gs gg gr bo ga out vo nnr [] [] [] uur (.slice none 0 0) (.slice none 0 0) (.slice none 0 0) [] (.slice none 0 0) wr)) (fun i _=>s.rules.length-(intOf i).toNat)
 case atStart=>exact ⟨0,[],[],_,_,Nat.zero_le _,rfl,hid (by simpa using OutIs.nil g),hid rfl,HS0⟩
 case round =>
 clear HS0;obtain ⟨k,out,nnr,vo,uur,hk,rfl,HO,HN,HS⟩:=hrel
 by_cases hlt:k<s.rules.length
 ·have hd:decide ((k:Int)<(s.rules.length:Int))=true:=by simp;omega
  obtain ⟨x,hx⟩:∃x,s.rules[k]? = some x:=⟨_,List.getElem?_eq_getElem hlt⟩;have hxm:=List.mem_of_getElem? hx;obtain ⟨b,o,rfl,hbn,hrow⟩:=HR1.out (by intro h0;rw [h0] at hlt;simp at hlt);have HX:=hid (line_rule (HRT.out.rules x hxm));have HPx:=hid (HP1.out x hxm);have k0:(0:Int)≤(k:Int):=by omega
  have kl:(k:Int)<(s.rules.length:Int):=by omega
  have HG0:=hid HS.out.le;have HGX:=hid HS.out.atb.lt;have HOL:=hid (show out.length≤160 from out_le HO.out hg (Nat.le_trans (fk_le (show ([]:List (List (List UInt8))).length≤0 from Nat.le_refl _) (show k≤5 by omega)) (by decide)));have HNL:=hid (show nnr.length≤10 from by rw [HN.out,nums_len];omega);have hcs:x.cells.size=11:=(rule_cells x).1;have hTi:(Tryz.prog.info? 55).map (·.size)=some x.cells.size:=by rw [hcs];kernel_rfl
  have HC:=hid (show wr.rangeAt b (o+k*11) x.cells.toList from fun j v hv=>(HS.out.bel.cell (p:=⟨b,o+k*11+j,none⟩) hbn).trans (hrow k x hx j v hv));have hZ:Blk (wr.alloc (.cells #[.string ⟨#[]⟩,.int .i64 0,.int .i64 0,.int .i64 0,.int .i64 0,.int .i64 0,.int .i64 0,.int .i64 0,.int .i64 0,.int .i64 0,.string ⟨#[]⟩] 55)) wr.heap.size 55 #[.string ⟨#[]⟩,.int .i64 0,.int .i64 0,.int .i64 0,.int .i64 0,.int .i64 0,.int .i64 0,.int .i64 0,.int .i64 0,.int .i64 0,.string ⟨#[]⟩]:=Blk.new' _ _ _ rfl;have hthere:(wr.alloc (.cells #[.string ⟨#[]⟩,.int .i64 0,.int .i64 0,.int .i64 0,.int .i64 0,.int .i64 0,.int .i64 0,.int .i64 0,.int .i64 0,.int .i64 0,.string ⟨#[]⟩] 55)).there wr.heap.size 0 x.cells.size:=hZ.there (by rw [hcs];exact Nat.le_refl _);have h1C:x.cells.all (·.oneCell')=true:=(rule_cells x).2;have HS5:=hid (show LT w #[.slice (some ⟨b,o,none⟩) s.rules.length c1,.slice p2 zs.length c2,.slice p3 s.links.length c3,.slice p4 s.shifts.length c4] g gs gg gr bo ga out vo nnr [] [] [] uur (.slice none 0 0) (.slice none 0 0) (.slice none 0 0) [] (.slice none 0 0) ((wr.alloc (.cells #[.string ⟨#[]⟩,.int .i64 0,.int .i64 0,.int .i64 0,.int .i64 0,.int .i64 0,.int .i64 0,.int .i64 0,.int .i64 0,.int .i64 0,.string ⟨#[]⟩] 55)).setCells wr.heap.size 0 x.cells.toList)∧Blk ((wr.alloc (.cells #[.string ⟨#[]⟩,.int .i64 0,.int .i64 0,.int .i64 0,.int .i64 0,.int .i64 0,.int .i64 0,.int .i64 0,.int .i64 0,.int .i64 0,.string ⟨#[]⟩] 55)).setCells wr.heap.size 0 x.cells.toList) wr.heap.size 55 x.cells from ⟨HS.out.below (below_sets (Nat.le_refl _) _ _ _ ((Below.refl _ _).alloc (Nat.le_refl _) _)),hZ.setAll x.cells (by rw [hcs];rfl)⟩);obtain ⟨qo,do_,rfl⟩:=own_form (show wr.ownsRow (ga+1) 9 1 vo out.length (flatC encS out) from HS.out.rows.own (rStr out vo) (List.mem_of_getElem? (i:=0) rfl));obtain ⟨qn,dn,rfl⟩:=own_form (show wr.ownsRow (ga+1) 3 1 uur nnr.length (flatC encI nnr) from HS.out.rows.own (rInt nnr uur) (List.mem_of_getElem? (i:=1) rfl));clear hrow hbn hZ
  go_upto_region 8 with (first|(refine wpList_load_arr rfl 55 (.tmp 31) rfl b (o+k*11) rfl x.cells _ HC.out Tryz.underlying55 rfl hTi ?_)|(refine wpList_store_mid rfl 55 (.tmp 12) (.tmp 32) rfl wr.heap.size 0 x.cells rfl rfl hthere hTi h1C ?_)|fail)
  generalize (wr.alloc (.cells #[.string ⟨#[]⟩,.int .i64 0,.int .i64 0,.int .i64 0,.int .i64 0,.int .i64 0,.int .i64 0,.int .i64 0,.int .i64 0,.int .i64 0,.string ⟨#[]⟩] 55)).setCells wr.heap.size 0 x.cells.toList=w5 at *;clear hthere h1C HC HS;generalize wr.heap.size=gx at *;obtain ⟨L,hL⟩:∃L,w5.heap.size=L:=⟨_,rfl⟩;have HLW:=hid (show LowRows L _ from by rw [←hL];exact HS5.out.1.rows.low);have HLL:=hid (show Low L (.slice qn nnr.length dn) from fun q hq=>HLW.out (rInt nnr (.slice qn nnr.length dn)) (List.mem_of_getElem? (i:=1) rfl) q hq);refine wp_region_relsG 7 [[],[],[],[],[],[4],[]] [Form.val,Form.val,Form.val,Form.val,Form.rel (One 3 L (encI ((out.length:Int)+1))),Form.rel (IntRow (ga+1) L (.slice qn nnr.length dn) nnr ((out.length:Int)+1)),Form.val] (fun W=>LT w #[.slice (some ⟨b,o,none⟩) s.rules.length c1,.slice p2 zs.length c2,.slice p3 s.links.length c3,.slice p4 s.shifts.length c4] g gs gg gr bo ga out (.slice qo out.length do_) nnr [] [] [] (.slice qn nnr.length dn) (.slice none 0 0) (.slice none 0 0) (.slice none 0 0) [] (.slice none 0 0) W∧Blk W gx 55 x.cells∧L≤W.heap.size) (GOwn 3 1 (ga+1) nnr.length (flatC encI nnr) (.slice qn nnr.length dn)) 5 (by kernel_rfl) (by kernel_rfl) rfl rfl (⟨HS5.out.1.below (Below.refl _ _).drew,HS5.out.2,by rw [←hL];exact Nat.le_refl _⟩) GOwn.of_below (fun W W2 h=>h.1.size) (fun W W2 k h=>⟨k.1.grow (i:=1) (r:=rInt nnr (.slice qn nnr.length dn)) rfl h,(blk_grown k.2.1 h.1 (k.1.rows.own (rInt nnr (.slice qn nnr.length dn)) (List.mem_of_getElem? (i:=1) rfl)) (show 55≠3 by decide)),Nat.le_trans k.2.2 h.1.size⟩) ⟨lastsG_one HLL.out,IntRow.last,trivial⟩ ?_
  repeat (first|apply exSpec_rel|apply exSpec_new|apply exSpec_val)
  apply relWalkR_ex rfl rfl ?or0 (fun K hK=>?nr0)
  case or0 =>
   intro W hC hF;go_simp
   all_goals first|exact ⟨Below.refl _ _,rfl⟩|exact Below.refl _ _
  case' nr0 =>
   go_simp;refine hK _ ?_;clear hK K
  apply relWalkR_ex rfl rfl ?or1 (fun K hK=>?nr1)
  case or1 =>
   intro W hC hF;have a0:=hC.1.atb.cell_ (i:=0) rfl;go_simp;exact ⟨Below.refl _ _,rfl⟩
  case' nr1 =>
   go_simp;refine hK _ ?_;clear hK K
  apply relWalkR_ex rfl rfl ?or2 (fun K hK=>?nr2)
  case or2 =>
   intro W hC hF;go_simp
   all_goals first|exact ⟨Below.refl _ _,rfl⟩|exact Below.refl _ _
  case' nr2 =>
   go_simp;refine hK _ ?_;clear hK K
  apply relWalkR_ex rfl rfl ?or3 (fun K hK=>?nr3)
  case or3 =>
   intro W hC hF;have hbx:=hC.1.box;go_simp;exact (next_any hbx (by have:=HOL.out;omega)).mono fun e w2 ⟨he,hb⟩=>⟨he,hb⟩
  case' nr3 =>
   go_simp;refine hK _ ?_;clear hK K
  apply relWalkR_rel rfl rfl ?or4 (fun u4 K hK=>?nr4)
  case or4 =>
   intro W hC hF;have hL9:=hC.2;go_simp;exact ⟨(Below.refl _ _).alloc (Nat.le_refl _) _,_,rfl,Blk.new' _ _ _ rfl,hL9.2⟩
  case' nr4 =>
   go_simp;refine hK _ ?_;clear hK K
  apply relWalkR_wr rfl rfl ?or5 (fun u5 K hK=>?nr5)
  case or5 =>
   intro W hC hF;obtain ⟨⟨g1,rfl,hb1,hg1⟩,-⟩:=hF;have hL9:L≤W.heap.size:=hC.2.2;have hga:=hC.1.atb.lt;refine relAtR_push2 rfl (ga+1) L iint zint 1 Tryz.underlying32 hiint hzint hszint hbyint hzcint (by decide) (.slice qn nnr.length dn) nnr.length (flatC encI nnr) rfl (hC.1.rows.own (rInt nnr (.slice qn nnr.length dn)) (List.mem_of_getElem? (i:=1) rfl)) g1 1 (encI ((out.length:Int)+1)) rfl hb1 rfl (by simp [encI,Value.oneCell']) (by have:=HNL.out;omega) (by omega) hL9 (fun u w' hG=>?_);unfold IntRow;rw [flatC_snoc];exact hG
  case' nr5 =>
   go_simp;refine hK _ ?_;clear hK K
  apply relWalkR_ex rfl rfl ?or6 (fun K hK=>?nr6)
  case or6 =>
   intro W hC hF;go_simp
   all_goals first|exact ⟨Below.refl _ _,rfl⟩|exact Below.refl _ _
  case' nr6 =>
   go_simp;refine hK _ ?_;clear hK K
  apply relWalkR_end
  intro W hC hF hU;obtain ⟨h9,-⟩:=hF;have a0:=hC.1.atb.cell_ (i:=0) rfl;have f0:=hC.1.atb.frozen 0;have HS9:=hid (And.intro (hC.1.put0 (n:=(out.length:Int)+1) (by show W.ownsRow (ga+1) 3 1 _ (nnr++[(out.length:Int)+1]).length (flatC encI (nnr++[(out.length:Int)+1]));rw [show (nnr++[(out.length:Int)+1]).length=nnr.length+1 from by simp];exact h9.1) h9.2 HLW.out) (hC.2.1.far (p:=⟨ga,0,none⟩) (by show gx≠ga;have:=HGX.out;omega) u5));obtain ⟨q9,d9,rfl⟩:=own_form h9.1;clear hU hC h9 HLW HLL hL HS5
  go_upto_region 9 with fail
  generalize W.setCell ⟨ga,0,none⟩ (.slice q9 (nnr.length+1) d9)=w6 at *;clear a0 f0;go_wp2_with (first|(refine wpList_load_row rfl 55 (.tmp 12) rfl gx rfl 55 x.cells (0,0) _ HS9.out.2 Tryz.underlying55 rfl hTi ?_)|fail)
  refine (HPx.out _ HS9.out.1.bel).mono ?_;rintro e w7 ⟨rfl,hb7⟩;have HS7:=hid (HS9.out.1.below hb7);clear hb7 HS9;go_wp2_with fail
  refine (add_any (g:=g) (ruleT x) _ HS7.out.box (HS7.out.rows.own (rStr out (.slice qo out.length do_)) (List.mem_of_getElem? (i:=0) rfl)) HS7.out.gap (by have:=HG0.out;omega) hg (by have:=HOL.out;omega) (HS7.out.atb.lt)).mono ?_;rintro e w8 ⟨ps,u,rfl,hpl,hpp,has⟩;have HS8:=hid (HS7.out.add has);have HO8:=hid (show OutIs g (out++ruleT x::ps) ([]++(s.rules.take (k+1)).map (fun x=>ruleB::ruleFs x)) from by rw [takeS _ hx,←List.append_assoc];exact HO.out.add HX.out hpl hpp);have HN8:=hid (nums_next HN.out (show (out.length:Int)+1=bsr+_ from by rw [HBSr.out];exact out_num HO.out hk));clear hpl hpp has HS7 HO HN HX HPx hx hxm;go_wp2_with fail
  go_roundw
  case rel=>exact ⟨k+1,out++ruleT x::ps,nnr++[(out.length:Int)+1],u,_,by omega,by go_num,HO8,HN8,HS8⟩
  case measure=>simp [intOf];omega
 ·have hd:decide ((k:Int)<(s.rules.length:Int))=false:=by simp;omega
  obtain rfl:k=s.rules.length:=by omega
  have HO1:=hid (show OutIs g out (s.rules.map fun x=>ruleB::ruleFs x) from by have:=HO.out;rwa [List.take_length,List.nil_append] at this);obtain ⟨qa,da,rfl⟩:=own_form (show wr.ownsRow (ga+1) 3 1 uur nnr.length (flatC encI nnr) from HS.out.rows.own (rInt nnr uur) (List.mem_of_getElem? (i:=1) rfl));have HNA:=hid (show nnr=nums 1 (g+1) s.rules.length from by rw [HN.out,HBSr.out];simp);generalize wr=w1 at *;have c1:=HS.out.src.cell_ (i:=1) rfl;clear hlt HO HN HBSr
  go_upto_region 13 with fail
  clear c1 hd
  go_loopw [52] (fun i wr=>∃(k:Nat) (out:List (List UInt8)) (el:List IV) (vo u2:Value),k≤zs.length∧i=.int .i64 (k:Int)∧Hid (OutIs g out ((s.rules.map fun x=>ruleB::ruleFs x)++(s.zones.take k).flatMap zoneFs))∧Hid (el.map (fun q=>q.2)=numss (1+(((g+1)*s.rules.length:Nat):Int)) (g+1) ((s.zones.take k).map fun z=>z.eras.length))∧Hid (LT w #[.slice p1 s.rules.length c1,.slice p2 zs.length c2,.slice p3 s.links.length c3,.slice p4 s.shifts.length c4] g gs gg gr bo ga out vo nnr [] [] el (.slice qa nnr.length da) u2 (.slice none 0 0) (.slice none 0 0) [] (.slice none 0 0) wr)) (fun i _=>zs.length-(intOf i).toNat)
  case atStart=>exact ⟨0,out,[],vo,_,Nat.zero_le _,rfl,hid (by simpa using HO1.out),hid rfl,HS⟩
  case round =>
  clear HS HO1;obtain ⟨k,out,el,vo,u2,hk,rfl,HO,HN,HS⟩:=hrel
  by_cases hlt:k<zs.length
  ·have hd:decide ((k:Int)<(zs.length:Int))=true:=by simp;omega
   obtain ⟨⟨z,ev⟩,hq⟩:∃q,zs[k]? = some q:=⟨_,List.getElem?_eq_getElem hlt⟩;have hzk:s.zones[k]? = some z:=by rw [←HZS.out,List.getElem?_map,hq];rfl
   have hzm:=List.mem_of_getElem? hzk;have h7:RowsAt w gs 13 EraP.cells ev z.eras:=HZ.out (z,ev) (List.mem_of_getElem? hq);obtain ⟨pe,ce,rfl,hre⟩:=h7;obtain ⟨b,o,rfl,hbn,hrow⟩:=HR2.out (by intro h0;rw [h0] at hlt;simp at hlt);have HRE:=hid hre;have HZK:=hid (HRT.out.zones z hzm);have HPz:=hid (HP2.out z hzm);have hz3:z.eras.length≤3:=HM3.out z hzm;have k0:(0:Int)≤(k:Int):=by omega
   have kl:(k:Int)<(zs.length:Int):=by omega
   have HG0:=hid HS.out.le;have HGX:=hid HS.out.atb.lt;have hcs:(encZ (z,Value.slice pe z.eras.length ce)).size=2:=rfl;have hTi:(Tryz.prog.info? 58).map (·.size)=some (encZ (z,Value.slice pe z.eras.length ce)).size:=by rw [hcs];kernel_rfl
   have HC:=hid (show wr.rangeAt b (o+k*2) (encZ (z,.slice pe z.eras.length ce)).toList from fun j v hv=>(HS.out.bel.cell (p:=⟨b,o+k*2+j,none⟩) hbn).trans (hrow k (z,_) hq j v hv));have hZ:Blk (wr.alloc (.cells #[.string ⟨#[]⟩,.slice none 0 0] 58)) wr.heap.size 58 #[.string ⟨#[]⟩,.slice none 0 0]:=Blk.new' _ _ _ rfl;have hthere:(wr.alloc (.cells #[.string ⟨#[]⟩,.slice none 0 0] 58)).there wr.heap.size 0 (encZ (z,Value.slice pe z.eras.length ce)).size:=hZ.there (by rw [hcs];exact Nat.le_refl _);have h1C:(encZ (z,Value.slice pe z.eras.length ce)).all (·.oneCell')=true:=by simp [encZ,Value.oneCell']
   have HS5:=hid (show LT w #[.slice p1 s.rules.length c1,.slice (some ⟨b,o,none⟩) zs.length c2,.slice p3 s.links.length c3,.slice p4 s.shifts.length c4] g gs gg gr bo ga out vo nnr [] [] el (.slice qa nnr.length da) u2 (.slice none 0 0) (.slice none 0 0) [] (.slice none 0 0) ((wr.alloc (.cells #[.string ⟨#[]⟩,.slice none 0 0] 58)).setCells wr.heap.size 0 (encZ (z,.slice pe z.eras.length ce)).toList)∧Blk ((wr.alloc (.cells #[.string ⟨#[]⟩,.slice none 0 0] 58)).setCells wr.heap.size 0 (encZ (z,.slice pe z.eras.length ce)).toList) wr.heap.size 58 (encZ (z,.slice pe z.eras.length ce)) from ⟨HS.out.below (below_sets (Nat.le_refl _) _ _ _ ((Below.refl _ _).alloc (Nat.le_refl _) _)),hZ.setAll _ (by rw [hcs];rfl)⟩);clear hrow hbn hZ hre;generalize hEC:encZ (z,Value.slice pe z.eras.length ce)=EC at *
   go_upto_region 15 with (first|(refine wpList_load_arr rfl 58 (.tmp 54) rfl b (o+k*2) rfl EC _ HC.out Tryz.underlying58 rfl hTi ?_)|(refine wpList_store_mid rfl 58 (.tmp 14) (.tmp 55) rfl wr.heap.size 0 EC rfl rfl hthere hTi h1C ?_)|fail)
   subst hEC;generalize (wr.alloc (.cells #[.string ⟨#[]⟩,.slice none 0 0] 58)).setCells wr.heap.size 0 (encZ (z,.slice pe z.eras.length ce)).toList=w5 at *;clear hthere h1C HC HS hTi hcs;generalize wr.heap.size=gz at *;have z1:w5.cell? ⟨gz,1,none⟩=some (.slice pe z.eras.length ce):=HS5.out.2.cell_ (i:=1) rfl
   go_upto_region 17 with fail
   clear z1 hd;obtain ⟨bz,hbz⟩:∃bz:Int,1+(((g+1)*((s.rules.map fun x=>ruleB::ruleFs x)++(s.zones.take k).flatMap zoneFs).length:Nat):Int)=bz:=⟨_,rfl⟩;have HBZ:=hid hbz.symm;clear hbz
   go_loopw [15,59] (fun l i wr=>∃(t:Nat) (out:List (List UInt8)) (cl:List Int) (vo cv:Value),t≤z.eras.length∧i=.int .i64 (t:Int)∧cv=l∧Hid (OutIs g out (((s.rules.map fun x=>ruleB::ruleFs x)++(s.zones.take k).flatMap zoneFs)++(zoneFs z).take t))∧Hid (cl=nums bz (g+1) t)∧Hid (LT w #[.slice p1 s.rules.length c1,.slice (some ⟨b,o,none⟩) zs.length c2,.slice p3 s.links.length c3,.slice p4 s.shifts.length c4] g gs gg gr bo ga out vo nnr [] [] el (.slice qa nnr.length da) u2 (.slice none 0 0) (.slice none 0 0) cl cv wr∧Blk wr gz 58 (encZ (z,.slice pe z.eras.length ce)))) (fun _ i _=>z.eras.length-(intOf i).toNat)
   case atStart=>exact ⟨0,out,[],vo,_,Nat.zero_le _,rfl,rfl,hid (by simpa using HO.out),hid rfl,HS5⟩
   case round =>
   clear HS5 HO;obtain ⟨t,out,cl,vo,cv,ht,rfl,rfl,HO,HC9,HS⟩:=hrel
   by_cases hlt2:t<z.eras.length
   ·have hd:decide ((t:Int)<(z.eras.length:Int))=true:=by simp;omega
    obtain ⟨x,hx⟩:∃x,z.eras[t]? = some x:=⟨_,List.getElem?_eq_getElem hlt2⟩;have hxm:=List.mem_of_getElem? hx;obtain ⟨b2,o2,rfl,hbn,hrow⟩:=HRE.out (by intro h0;rw [h0] at hlt2;simp at hlt2);have hxo:eraOk x=true:=(zone_parts_ HZK.out).2 x hxm;have hzn:zoneB z.name=true:=(zone_parts_ HZK.out).1;have HPx:=hid (HPz.out x hxm);have t0:(0:Int)≤(t:Int):=by omega
    have tl:(t:Int)<(z.eras.length:Int):=by omega
    have HOL:=hid (show out.length≤160 from out_le HO.out hg (by have h1:=zones_few HM3.out hm2;have h2:((s.zones.take k).flatMap zoneFs).length≤9:=zones_few (fun y hy=>HM3.out y (List.mem_of_mem_take hy)) (by rw [List.length_take];omega);have h3:=List.length_take_le t (zoneFs z);have h4:=zoneFs_len z;simp only [List.length_append,List.length_map];omega));have HNL:=hid (show cl.length≤10 from by rw [HC9.out,nums_len];omega);have hcs:x.cells.size=13:=(eraOk_cells x).1;have hTi:(Tryz.prog.info? 62).map (·.size)=some x.cells.size:=by rw [hcs];kernel_rfl
    have HC:=hid (show wr.rangeAt b2 (o2+t*13) x.cells.toList from fun j v hv=>(HS.out.1.bel.cell (p:=⟨b2,o2+t*13+j,none⟩) hbn).trans (hrow t x hx j v hv));have hZ:Blk (wr.alloc (.cells #[.int .i64 0,.int .i64 0,.int .i64 0,.string ⟨#[]⟩,.string ⟨#[]⟩,.bool false,.int .i64 0,.int .i64 0,.int .i64 0,.int .i64 0,.int .i64 0,.int .i64 0,.int .i64 0] 62)) wr.heap.size 62 #[.int .i64 0,.int .i64 0,.int .i64 0,.string ⟨#[]⟩,.string ⟨#[]⟩,.bool false,.int .i64 0,.int .i64 0,.int .i64 0,.int .i64 0,.int .i64 0,.int .i64 0,.int .i64 0]:=Blk.new' _ _ _ rfl;have hthere:(wr.alloc (.cells #[.int .i64 0,.int .i64 0,.int .i64 0,.string ⟨#[]⟩,.string ⟨#[]⟩,.bool false,.int .i64 0,.int .i64 0,.int .i64 0,.int .i64 0,.int .i64 0,.int .i64 0,.int .i64 0] 62)).there wr.heap.size 0 x.cells.size:=hZ.there (by rw [hcs];exact Nat.le_refl _);have h1C:x.cells.all (·.oneCell')=true:=(eraOk_cells x).2;have hbW:Below wr.heap.size wr ((wr.alloc (.cells #[.int .i64 0,.int .i64 0,.int .i64 0,.string ⟨#[]⟩,.string ⟨#[]⟩,.bool false,.int .i64 0,.int .i64 0,.int .i64 0,.int .i64 0,.int .i64 0,.int .i64 0,.int .i64 0] 62)).setCells wr.heap.size 0 x.cells.toList):=below_sets (Nat.le_refl _) _ _ _ ((Below.refl _ _).alloc (Nat.le_refl _) _);have HS6:=hid (And.intro (HS.out.1.below hbW) (And.intro (HS.out.2.below hbW HS.out.2.lt) (hZ.setAll x.cells (by rw [hcs];rfl))));clear hbW hrow hbn hZ
    go_upto_region 19 with (first|(refine wpList_load_arr rfl 62 (.tmp 62) rfl b2 (o2+t*13) rfl x.cells _ HC.out Tryz.underlying62 rfl hTi ?_)|(refine wpList_store_mid rfl 62 (.tmp 17) (.tmp 63) rfl wr.heap.size 0 x.cells rfl rfl hthere hTi h1C ?_)|fail)
    generalize (wr.alloc (.cells #[.int .i64 0,.int .i64 0,.int .i64 0,.string ⟨#[]⟩,.string ⟨#[]⟩,.bool false,.int .i64 0,.int .i64 0,.int .i64 0,.int .i64 0,.int .i64 0,.int .i64 0,.int .i64 0] 62)).setCells wr.heap.size 0 x.cells.toList=w6 at *;clear hthere h1C HC HS;generalize wr.heap.size=gx at *;go_wp2_with (first|(refine wpList_load_row rfl 62 (.tmp 17) rfl gx rfl 62 x.cells (0,0) _ HS6.out.2.2 Tryz.underlying62 rfl hTi ?_)|fail)
    refine (HPx.out _ HS6.out.1.bel).mono ?_;rintro e w7 ⟨rfl,hb7⟩;have HS7:=hid (And.intro (HS6.out.1.below hb7) (HS6.out.2.1.below hb7 HS6.out.2.1.lt));clear hb7 HS6 hTi hcs;have hel:=era_len ((eraOk_iff x).1 hxo);have hnl:=zoneBk_len hzn;obtain ⟨qo,do_,rfl⟩:=own_form (show w7.ownsRow (ga+1) 9 1 vo out.length (flatC encS out) from HS7.out.1.rows.own (rStr out vo) (List.mem_of_getElem? (i:=0) rfl));obtain ⟨qc,dc,rfl⟩:=own_form (show w7.ownsRow (ga+1) 3 1 cv cl.length (flatC encI cl) from HS7.out.1.rows.own (rInt cl cv) (List.mem_of_getElem? (i:=5) rfl))
    by_cases ht0:t=0
    ·obtain ⟨nb,hnb⟩:∃nb:ByteArray,(⟨z.name.toArray⟩:ByteArray)=nb:=⟨_,rfl⟩
     obtain ⟨eb,heb⟩:∃eb:ByteArray,(⟨(eraT x).toArray⟩:ByteArray)=eb:=⟨_,rfl⟩;have z0:w7.cell? ⟨gz,0,none⟩=some (.string nb):=by rw [←hnb];exact HS7.out.2.cell_ (i:=0) rfl
     have e0:((t:Int)==0)=true:=by rw [beq_iff_eq];omega
     have hs1:nb.size≤60:=by rw [←hnb];simp [ByteArray.size];omega
     have hs2:eb.size≤300:=by rw [←heb];simp [ByteArray.size];omega
     obtain ⟨XL,hXL⟩:∃XL:List UInt8,([90,111,110,101,32]++z.name++[32]++eraT x)=XL:=⟨_,rfl⟩;have HTX:=hid (show ((⟨#[90,111,110,101,32]⟩:ByteArray)++nb++⟨#[32]⟩++eb)=⟨XL.toArray⟩ from by rw [←hXL,←hnb,←heb,←bapp_,←bapp_,←bapp_]);simp only [heb];clear hnb heb;have HX:=hid (show LineIs XL ([90,111,110,101]::z.name::eraFs x) from by rw [←hXL];exact line_zone hzn hxo);have HZF:=hid (show (zoneFs z).take (t+1)=(zoneFs z).take t++[([90,111,110,101]::z.name::eraFs x)] from take_app (by rw [zoneFs_at hx];simp [ht0]));clear hXL hx hxm HPx hel hnl ht0;have hbx:=HS7.out.1.box;go_wp2_with fail
     rw [HTX.out];refine (next_any hbx (by have:=HOL.out;omega)).mono ?_;rintro e w8 ⟨rfl,hb8⟩;have HS8:=hid (And.intro (HS7.out.1.below hb8) (HS7.out.2.below hb8 HS7.out.2.lt));clear hb8 HS7 hbx;have HOc:=hid (show w8.ownsRow (ga+1) 3 1 (.slice qc cl.length dc) cl.length (flatC encI cl) from HS8.out.1.rows.own (rInt cl (.slice qc cl.length dc)) (List.mem_of_getElem? (i:=5) rfl));have hga:=HS8.out.1.atb.lt;have hnl9:cl.length≤10:=HNL.out;go_wp2_with (first|(at_builtin;refine wpList_append_any _ rfl (.tmp 77) (.tmp 80) 32 rfl (ga+1) 3 iint zint 1 iint.bytes Tryz.underlying32 hiint hzint hszint rfl hzcint (by decide) _ _ _ rfl (HOc.out.alloc _) (w8.heap.size+1) (some ⟨w8.heap.size,0,none⟩) 1 1 [.int .i64 ((out.length:Int)+1)] rfl ?c0 ?c1 ?c2 ?c3 ?c4 ?_)|fail)
     case c0=>exact ⟨rfl,fun _=>⟨_,rfl,by simp,fun j u hu=>by rw [Addr.add_lit,Nat.zero_add];exact (Blk.new' w8 3 #[.int .i64 ((out.length:Int)+1)] rfl).cell_ (by simpa using hu)⟩⟩
     case c1=>intro u hu;simp only [List.mem_cons,List.not_mem_nil,or_false] at hu;subst hu;rfl
     case c2=>unfold maxLen;omega
     case c3 =>
      have:(cl.length+1)*iint.bytes≤11*1000:=Nat.mul_le_mul (by omega) hbyint
      omega
     case c4=>simp;omega
     intro v2 wb hown hgrow hv2;have ha:Below w8.heap.size w8 (w8.alloc (.cells #[.int .i64 ((out.length:Int)+1)] 3)):=(Below.refl _ _).alloc (Nat.le_refl _) _
     have HS9:=hid (And.intro ((HS8.out.1.below ha).putC hgrow (n:=(out.length:Int)+1) (u:=v2) (L:=w8.heap.size+1) (by show wb.ownsRow (ga+1) 3 1 _ (cl++[(out.length:Int)+1]).length (flatC encI (cl++[(out.length:Int)+1]));rw [List.length_append,flatC_snoc];exact hown) (by
      rcases hv2 with h|h
      ·exact .inl h
      ·exact .inr ⟨_,h,by simp⟩) (by simp)) (blk_grown (HS8.out.2.below ha HS8.out.2.lt) hgrow (OwnR.kept_ HOc.out ha) (by decide)))
     obtain ⟨q9,d9,rfl⟩:=own_form hown;clear hown hgrow hv2 ha HOc HS8;go_wp2_with fail
     refine (add_any (g:=g) (XL) _ HS9.out.1.box (HS9.out.1.rows.own (rStr out (.slice qo out.length do_)) (List.mem_of_getElem? (i:=0) rfl)) HS9.out.1.gap (by have:=HG0.out;omega) hg (by have:=HOL.out;omega) (HS9.out.1.atb.lt)).mono ?_;rintro e w9 ⟨ps,u,rfl,hpl,hpp,has⟩;have HS10:=hid (And.intro (HS9.out.1.add has) (has.blk HS9.out.2 HS9.out.1.box (HS9.out.1.rows.own (rStr out (.slice qo out.length do_)) (List.mem_of_getElem? (i:=0) rfl)) (by decide) (by decide)));have HO10:=hid (show OutIs g (out++XL::ps) (((s.rules.map fun x=>ruleB::ruleFs x)++(s.zones.take k).flatMap zoneFs)++(zoneFs z).take (t+1)) from by rw [HZF.out,←List.append_assoc];exact HO.out.add HX.out hpl hpp);have HC10:=hid (nums_next HC9.out (show (out.length:Int)+1=bz+_ from by rw [HBZ.out];exact out_num2 HO.out (by rw [zoneFs_len];omega)));clear hpl hpp has HS9 HO HC9 HX HZF;go_wp2_with fail
     go_roundw
     case rel=>exact ⟨t+1,out++XL::ps,cl++[(out.length:Int)+1],u,_,by omega,by go_num,rfl,HO10,HC10,HS10⟩
     case measure=>simp [intOf];omega
    ·have e0:((t:Int)==0)=false:=by rw [beq_eq_false_iff_ne];omega
     have HX:=hid (line_era0 hxo);have HZF:=hid (show (zoneFs z).take (t+1)=(zoneFs z).take t++[(eraFs x)] from take_app (by rw [zoneFs_at hx];simp [ht0]));clear hx hxm HPx hel hnl ht0;have hbx:=HS7.out.1.box;go_wp2_with fail
     refine (next_any hbx (by have:=HOL.out;omega)).mono ?_;rintro e w8 ⟨rfl,hb8⟩;have HS8:=hid (And.intro (HS7.out.1.below hb8) (HS7.out.2.below hb8 HS7.out.2.lt));clear hb8 HS7 hbx;have HOc:=hid (show w8.ownsRow (ga+1) 3 1 (.slice qc cl.length dc) cl.length (flatC encI cl) from HS8.out.1.rows.own (rInt cl (.slice qc cl.length dc)) (List.mem_of_getElem? (i:=5) rfl));have hga:=HS8.out.1.atb.lt;have hnl9:cl.length≤10:=HNL.out;go_wp2_with (first|(at_builtin;refine wpList_append_any _ rfl (.tmp 77) (.tmp 80) 32 rfl (ga+1) 3 iint zint 1 iint.bytes Tryz.underlying32 hiint hzint hszint rfl hzcint (by decide) _ _ _ rfl (HOc.out.alloc _) (w8.heap.size+1) (some ⟨w8.heap.size,0,none⟩) 1 1 [.int .i64 ((out.length:Int)+1)] rfl ?c0 ?c1 ?c2 ?c3 ?c4 ?_)|fail)
     case c0=>exact ⟨rfl,fun _=>⟨_,rfl,by simp,fun j u hu=>by rw [Addr.add_lit,Nat.zero_add];exact (Blk.new' w8 3 #[.int .i64 ((out.length:Int)+1)] rfl).cell_ (by simpa using hu)⟩⟩
     case c1=>intro u hu;simp only [List.mem_cons,List.not_mem_nil,or_false] at hu;subst hu;rfl
     case c2=>unfold maxLen;omega
     case c3 =>
      have:(cl.length+1)*iint.bytes≤11*1000:=Nat.mul_le_mul (by omega) hbyint
      omega
     case c4=>simp;omega
     intro v2 wb hown hgrow hv2;have ha:Below w8.heap.size w8 (w8.alloc (.cells #[.int .i64 ((out.length:Int)+1)] 3)):=(Below.refl _ _).alloc (Nat.le_refl _) _
     have HS9:=hid (And.intro ((HS8.out.1.below ha).putC hgrow (n:=(out.length:Int)+1) (u:=v2) (L:=w8.heap.size+1) (by show wb.ownsRow (ga+1) 3 1 _ (cl++[(out.length:Int)+1]).length (flatC encI (cl++[(out.length:Int)+1]));rw [List.length_append,flatC_snoc];exact hown) (by
      rcases hv2 with h|h
      ·exact .inl h
      ·exact .inr ⟨_,h,by simp⟩) (by simp)) (blk_grown (HS8.out.2.below ha HS8.out.2.lt) hgrow (OwnR.kept_ HOc.out ha) (by decide)))
     obtain ⟨q9,d9,rfl⟩:=own_form hown;clear hown hgrow hv2 ha HOc HS8;go_wp2_with fail
     refine (add_any (g:=g) ((eraT x)) _ HS9.out.1.box (HS9.out.1.rows.own (rStr out (.slice qo out.length do_)) (List.mem_of_getElem? (i:=0) rfl)) HS9.out.1.gap (by have:=HG0.out;omega) hg (by have:=HOL.out;omega) (HS9.out.1.atb.lt)).mono ?_;rintro e w9 ⟨ps,u,rfl,hpl,hpp,has⟩;have HS10:=hid (And.intro (HS9.out.1.add has) (has.blk HS9.out.2 HS9.out.1.box (HS9.out.1.rows.own (rStr out (.slice qo out.length do_)) (List.mem_of_getElem? (i:=0) rfl)) (by decide) (by decide)));have HO10:=hid (show OutIs g (out++(eraT x)::ps) (((s.rules.map fun x=>ruleB::ruleFs x)++(s.zones.take k).flatMap zoneFs)++(zoneFs z).take (t+1)) from by rw [HZF.out,←List.append_assoc];exact HO.out.add HX.out hpl hpp);have HC10:=hid (nums_next HC9.out (show (out.length:Int)+1=bz+_ from by rw [HBZ.out];exact out_num2 HO.out (by rw [zoneFs_len];omega)));clear hpl hpp has HS9 HO HC9 HX HZF;go_wp2_with fail
     go_roundw
     case rel=>exact ⟨t+1,out++(eraT x)::ps,cl++[(out.length:Int)+1],u,_,by omega,by go_num,rfl,HO10,HC10,HS10⟩
     case measure=>simp [intOf];omega
   ·obtain rfl:t=z.eras.length:=by omega
    have hd:decide ((z.eras.length:Int)<(z.eras.length:Int))=false:=by simp
    obtain ⟨qc,dc,rfl⟩:=own_form (show wr.ownsRow (ga+1) 3 1 cv cl.length (flatC encI cl) from HS.out.1.rows.own (rInt cl cv) (List.mem_of_getElem? (i:=5) rfl));obtain ⟨qe,de,rfl⟩:=own_form (show wr.ownsRow (ga+1) 32 1 u2 el.length (flatC encW el) from HS.out.1.rows.own (rIrow el u2) (List.mem_of_getElem? (i:=2) rfl));have HOe:=hid (show wr.ownsRow (ga+1) 32 1 (.slice qe el.length de) el.length (flatC encW el) from HS.out.1.rows.own (rIrow el (.slice qe el.length de)) (List.mem_of_getElem? (i:=2) rfl));have a1:=HS.out.1.atb.cell_ (i:=1) rfl;have hga:=HS.out.1.atb.lt;have hle9:el.length≤3:=by have h1:=congrArg List.length HN.out;rw [List.length_map,numss_len,List.length_map,List.length_take] at h1;omega
    go_wp2_with (first|(at_builtin;refine wpList_append_any _ rfl (.tmp 90) (.tmp 92) 33 rfl (ga+1) 32 iirow zirow 1 iirow.bytes Tryz.underlying33 hiirow hzirow hszirow rfl hzcirow (by decide) _ _ _ rfl (HOe.out.alloc _) (wr.heap.size+1) (some ⟨wr.heap.size,0,none⟩) 1 1 [.slice qc cl.length dc] rfl ?c0 ?c1 ?c2 ?c3 ?c4 ?_)|fail)
    case c0=>exact ⟨rfl,fun _=>⟨_,rfl,by simp,fun j u hu=>by rw [Addr.add_lit,Nat.zero_add];exact (Blk.new' wr 32 #[.slice qc cl.length dc] rfl).cell_ (by simpa using hu)⟩⟩
    case c1=>intro u hu;simp only [List.mem_cons,List.not_mem_nil,or_false] at hu;subst hu;rfl
    case c2=>unfold maxLen;omega
    case c3 =>
     have:(el.length+1)*iirow.bytes≤11*1000:=Nat.mul_le_mul (by omega) hbyirow
     omega
    case c4=>simp;omega
    intro v2 wb hown hgrow hv2;have ha:Below wr.heap.size wr (wr.alloc (.cells #[.slice qc cl.length dc] 32)):=(Below.refl _ _).alloc (Nat.le_refl _) _;have hb9:=blk_base (HS.out.1.below ha).atb hgrow (OwnR.kept_ HOe.out ha) (by omega)
    have HS9:=hid ((HS.out.1.below ha).putE hgrow (u:=v2) (L:=wr.heap.size+1) (by show wb.ownsRow (ga+1) 32 1 _ (el++[((Value.slice qc cl.length dc),cl)]).length (flatC encW (el++[((Value.slice qc cl.length dc),cl)]));rw [List.length_append,flatC_snoc];exact hown) (by
     rcases hv2 with h|h
     ·exact .inl h
     ·exact .inr ⟨_,h,by simp⟩) (by simp))
    have a1:=hb9.cell_ (i:=1) rfl;have f1:=hb9.frozen 1;obtain ⟨q9,d9,rfl⟩:=own_form hown;have HO10:=hid (show OutIs g out ((s.rules.map fun x=>ruleB::ruleFs x)++(s.zones.take (k+1)).flatMap zoneFs) from by rw [take_app hzk,List.flatMap_append,←List.append_assoc];have h:=HO.out;rw [←zoneFs_len,List.take_length] at h;simpa using h);have HN10:=hid (show (el++[((Value.slice qc cl.length dc),cl)]).map (fun q=>q.2)=numss (1+(((g+1)*s.rules.length:Nat):Int)) (g+1) ((s.zones.take (k+1)).map fun z=>z.eras.length) from by rw [takeS _ hzk,numss_snoc,List.map_append,HN.out];simp only [List.map_cons,List.map_nil];rw [HC9.out,HBZ.out,List.length_append,List.length_map,zones_len,Nat.mul_add];congr 3;omega);clear hown hgrow hv2 ha hb9 HS HOe HO HN HC9 HBZ hzk hq hlt2;go_wp2_with fail
    go_roundw
    case rel=>exact ⟨k+1,out,el++[((Value.slice qc cl.length dc),cl)],vo,_,by omega,by go_num,HO10,HN10,HS9⟩
    case measure=>simp [intOf];omega
  ·have hd:decide ((k:Int)<(zs.length:Int))=false:=by simp;omega
   obtain rfl:k=zs.length:=by omega
   have HO2:=hid (show OutIs g out ((s.rules.map fun x=>ruleB::ruleFs x)++s.zones.flatMap zoneFs) from by have h:=HO.out;rw [HZL.out,List.take_length] at h;exact h);have HN2:=hid (show el.map (fun q=>q.2)=numss (1+(((g+1)*s.rules.length:Nat):Int)) (g+1) (s.zones.map fun z=>z.eras.length) from by have h:=HN.out;rw [HZL.out,List.take_length] at h;exact h);generalize wr=w2 at *;have c2_:=HS.out.src.cell_ (i:=2) rfl;clear hlt HO HN
   go_upto_region 29 with fail
   clear c2_ hd;obtain ⟨bsl,hbs⟩:∃bs:Int,1+(((g+1)*(((s.rules.map fun x=>ruleB::ruleFs x)++s.zones.flatMap zoneFs)).length:Nat):Int)=bs:=⟨_,rfl⟩;have HBSl:=hid hbs.symm;clear hbs
   go_loopw [99] (fun i wr=>∃(k:Nat) (out:List (List UInt8)) (nnl:List Int) (vo uul:Value),k≤s.links.length∧i=.int .i64 (k:Int)∧Hid (OutIs g out (((s.rules.map fun x=>ruleB::ruleFs x)++s.zones.flatMap zoneFs)++(s.links.take k).map (fun x:LinkP=>[[76,105,110,107],x.target,x.name])))∧Hid (nnl=nums bsl (g+1) k)∧Hid (LT w #[.slice p1 s.rules.length c1,.slice p2 zs.length c2,.slice p3 s.links.length c3,.slice p4 s.shifts.length c4] g gs gg gr bo ga out vo nnr nnl [] el (.slice qa nnr.length da) u2 uul (.slice none 0 0) [] (.slice none 0 0) wr)) (fun i _=>s.links.length-(intOf i).toNat)
   case atStart=>exact ⟨0,out,[],vo,_,Nat.zero_le _,rfl,hid (by simpa using HO2.out),hid rfl,HS⟩
   case round =>
   clear HS;obtain ⟨k,out,nnl,vo,uul,hk,rfl,HO,HN,HS⟩:=hrel
   by_cases hlt:k<s.links.length
   ·have hd:decide ((k:Int)<(s.links.length:Int))=true:=by simp;omega
    obtain ⟨x,hx⟩:∃x,s.links[k]? = some x:=⟨_,List.getElem?_eq_getElem hlt⟩;have hxm:=List.mem_of_getElem? hx;obtain ⟨b,o,rfl,hbn,hrow⟩:=HR3.out (by intro h0;rw [h0] at hlt;simp at hlt);have HX:=hid (line_link (HRT.out.links x hxm));have HPx:=hid (HP3.out x hxm);have k0:(0:Int)≤(k:Int):=by omega
    have kl:(k:Int)<(s.links.length:Int):=by omega
    have HG0:=hid HS.out.le;have HGX:=hid HS.out.atb.lt;have HOL:=hid (show out.length≤160 from out_le HO.out hg (Nat.le_trans (fk_le (show ((s.rules.map fun x=>ruleB::ruleFs x)++s.zones.flatMap zoneFs).length≤13 from by have:=zones_few HM3.out hm2;simp only [List.length_append,List.length_map];omega) (show k≤5 by omega)) (by decide)));have HNL:=hid (show nnl.length≤10 from by rw [HN.out,nums_len];omega);have hcs:x.cells.size=2:=(link_cells x).1;have hTi:(Tryz.prog.info? 64).map (·.size)=some x.cells.size:=by rw [hcs];kernel_rfl
    have HC:=hid (show wr.rangeAt b (o+k*2) x.cells.toList from fun j v hv=>(HS.out.bel.cell (p:=⟨b,o+k*2+j,none⟩) hbn).trans (hrow k x hx j v hv));have hZ:Blk (wr.alloc (.cells #[.string ⟨#[]⟩,.string ⟨#[]⟩] 64)) wr.heap.size 64 #[.string ⟨#[]⟩,.string ⟨#[]⟩]:=Blk.new' _ _ _ rfl;have hthere:(wr.alloc (.cells #[.string ⟨#[]⟩,.string ⟨#[]⟩] 64)).there wr.heap.size 0 x.cells.size:=hZ.there (by rw [hcs];exact Nat.le_refl _);have h1C:x.cells.all (·.oneCell')=true:=(link_cells x).2;have HS5:=hid (show LT w #[.slice p1 s.rules.length c1,.slice p2 zs.length c2,.slice (some ⟨b,o,none⟩) s.links.length c3,.slice p4 s.shifts.length c4] g gs gg gr bo ga out vo nnr nnl [] el (.slice qa nnr.length da) u2 uul (.slice none 0 0) [] (.slice none 0 0) ((wr.alloc (.cells #[.string ⟨#[]⟩,.string ⟨#[]⟩] 64)).setCells wr.heap.size 0 x.cells.toList)∧Blk ((wr.alloc (.cells #[.string ⟨#[]⟩,.string ⟨#[]⟩] 64)).setCells wr.heap.size 0 x.cells.toList) wr.heap.size 64 x.cells from ⟨HS.out.below (below_sets (Nat.le_refl _) _ _ _ ((Below.refl _ _).alloc (Nat.le_refl _) _)),hZ.setAll x.cells (by rw [hcs];rfl)⟩);obtain ⟨qo,do_,rfl⟩:=own_form (show wr.ownsRow (ga+1) 9 1 vo out.length (flatC encS out) from HS.out.rows.own (rStr out vo) (List.mem_of_getElem? (i:=0) rfl));obtain ⟨qn,dn,rfl⟩:=own_form (show wr.ownsRow (ga+1) 3 1 uul nnl.length (flatC encI nnl) from HS.out.rows.own (rInt nnl uul) (List.mem_of_getElem? (i:=3) rfl));clear hrow hbn hZ
    go_upto_region 31 with (first|(refine wpList_load_arr rfl 64 (.tmp 101) rfl b (o+k*2) rfl x.cells _ HC.out Tryz.underlying64 rfl hTi ?_)|(refine wpList_store_mid rfl 64 (.tmp 21) (.tmp 102) rfl wr.heap.size 0 x.cells rfl rfl hthere hTi h1C ?_)|fail)
    generalize (wr.alloc (.cells #[.string ⟨#[]⟩,.string ⟨#[]⟩] 64)).setCells wr.heap.size 0 x.cells.toList=w5 at *;clear hthere h1C HC HS;generalize wr.heap.size=gx at *;obtain ⟨L,hL⟩:∃L,w5.heap.size=L:=⟨_,rfl⟩;have HLW:=hid (show LowRows L _ from by rw [←hL];exact HS5.out.1.rows.low);have HLL:=hid (show Low L (.slice qn nnl.length dn) from fun q hq=>HLW.out (rInt nnl (.slice qn nnl.length dn)) (List.mem_of_getElem? (i:=3) rfl) q hq);refine wp_region_relsG 7 [[],[],[],[],[],[4],[]] [Form.val,Form.val,Form.val,Form.val,Form.rel (One 3 L (encI ((out.length:Int)+1))),Form.rel (IntRow (ga+1) L (.slice qn nnl.length dn) nnl ((out.length:Int)+1)),Form.val] (fun W=>LT w #[.slice p1 s.rules.length c1,.slice p2 zs.length c2,.slice (some ⟨b,o,none⟩) s.links.length c3,.slice p4 s.shifts.length c4] g gs gg gr bo ga out (.slice qo out.length do_) nnr nnl [] el (.slice qa nnr.length da) u2 (.slice qn nnl.length dn) (.slice none 0 0) [] (.slice none 0 0) W∧Blk W gx 64 x.cells∧L≤W.heap.size) (GOwn 3 1 (ga+1) nnl.length (flatC encI nnl) (.slice qn nnl.length dn)) 5 (by kernel_rfl) (by kernel_rfl) rfl rfl (⟨HS5.out.1.below (Below.refl _ _).drew,HS5.out.2,by rw [←hL];exact Nat.le_refl _⟩) GOwn.of_below (fun W W2 h=>h.1.size) (fun W W2 k h=>⟨k.1.grow (i:=3) (r:=rInt nnl (.slice qn nnl.length dn)) rfl h,(blk_grown k.2.1 h.1 (k.1.rows.own (rInt nnl (.slice qn nnl.length dn)) (List.mem_of_getElem? (i:=3) rfl)) (show 64≠3 by decide)),Nat.le_trans k.2.2 h.1.size⟩) ⟨lastsG_one HLL.out,IntRow.last,trivial⟩ ?_
    repeat (first|apply exSpec_rel|apply exSpec_new|apply exSpec_val)
    apply relWalkR_ex rfl rfl ?ol0 (fun K hK=>?nl0)
    case ol0 =>
     intro W hC hF;go_simp
     all_goals first|exact ⟨Below.refl _ _,rfl⟩|exact Below.refl _ _
    case' nl0 =>
     go_simp;refine hK _ ?_;clear hK K
    apply relWalkR_ex rfl rfl ?ol1 (fun K hK=>?nl1)
    case ol1 =>
     intro W hC hF;have a0:=hC.1.atb.cell_ (i:=2) rfl;go_simp;exact ⟨Below.refl _ _,rfl⟩
    case' nl1 =>
     go_simp;refine hK _ ?_;clear hK K
    apply relWalkR_ex rfl rfl ?ol2 (fun K hK=>?nl2)
    case ol2 =>
     intro W hC hF;go_simp
     all_goals first|exact ⟨Below.refl _ _,rfl⟩|exact Below.refl _ _
    case' nl2 =>
     go_simp;refine hK _ ?_;clear hK K
    apply relWalkR_ex rfl rfl ?ol3 (fun K hK=>?nl3)
    case ol3 =>
     intro W hC hF;have hbx:=hC.1.box;go_simp;exact (next_any hbx (by have:=HOL.out;omega)).mono fun e w2 ⟨he,hb⟩=>⟨he,hb⟩
    case' nl3 =>
     go_simp;refine hK _ ?_;clear hK K
    apply relWalkR_rel rfl rfl ?ol4 (fun u4 K hK=>?nl4)
    case ol4 =>
     intro W hC hF;have hL9:=hC.2;go_simp;exact ⟨(Below.refl _ _).alloc (Nat.le_refl _) _,_,rfl,Blk.new' _ _ _ rfl,hL9.2⟩
    case' nl4 =>
     go_simp;refine hK _ ?_;clear hK K
    apply relWalkR_wr rfl rfl ?ol5 (fun u5 K hK=>?nl5)
    case ol5 =>
     intro W hC hF;obtain ⟨⟨g1,rfl,hb1,hg1⟩,-⟩:=hF;have hL9:L≤W.heap.size:=hC.2.2;have hga:=hC.1.atb.lt;refine relAtR_push2 rfl (ga+1) L iint zint 1 Tryz.underlying32 hiint hzint hszint hbyint hzcint (by decide) (.slice qn nnl.length dn) nnl.length (flatC encI nnl) rfl (hC.1.rows.own (rInt nnl (.slice qn nnl.length dn)) (List.mem_of_getElem? (i:=3) rfl)) g1 1 (encI ((out.length:Int)+1)) rfl hb1 rfl (by simp [encI,Value.oneCell']) (by have:=HNL.out;omega) (by omega) hL9 (fun u w' hG=>?_);unfold IntRow;rw [flatC_snoc];exact hG
    case' nl5 =>
     go_simp;refine hK _ ?_;clear hK K
    apply relWalkR_ex rfl rfl ?ol6 (fun K hK=>?nl6)
    case ol6 =>
     intro W hC hF;go_simp
     all_goals first|exact ⟨Below.refl _ _,rfl⟩|exact Below.refl _ _
    case' nl6 =>
     go_simp;refine hK _ ?_;clear hK K
    apply relWalkR_end
    intro W hC hF hU;obtain ⟨h9,-⟩:=hF;have a0:=hC.1.atb.cell_ (i:=2) rfl;have f0:=hC.1.atb.frozen 2;have HS9:=hid (And.intro (hC.1.put2 (n:=(out.length:Int)+1) (by show W.ownsRow (ga+1) 3 1 _ (nnl++[(out.length:Int)+1]).length (flatC encI (nnl++[(out.length:Int)+1]));rw [show (nnl++[(out.length:Int)+1]).length=nnl.length+1 from by simp];exact h9.1) h9.2 HLW.out) (hC.2.1.far (p:=⟨ga,2,none⟩) (by show gx≠ga;have:=HGX.out;omega) u5));obtain ⟨q9,d9,rfl⟩:=own_form h9.1;clear hU hC h9 HLW HLL hL HS5
    go_upto_region 32 with fail
    generalize W.setCell ⟨ga,2,none⟩ (.slice q9 (nnl.length+1) d9)=w6 at *;clear a0 f0;go_wp2_with (first|(refine wpList_load_row rfl 64 (.tmp 21) rfl gx rfl 64 x.cells (0,0) _ HS9.out.2 Tryz.underlying64 rfl hTi ?_)|fail)
    refine (HPx.out _ HS9.out.1.bel).mono ?_;rintro e w7 ⟨rfl,hb7⟩;have HS7:=hid (HS9.out.1.below hb7);clear hb7 HS9;go_wp2_with fail
    refine (add_any (g:=g) (linkT x) _ HS7.out.box (HS7.out.rows.own (rStr out (.slice qo out.length do_)) (List.mem_of_getElem? (i:=0) rfl)) HS7.out.gap (by have:=HG0.out;omega) hg (by have:=HOL.out;omega) (HS7.out.atb.lt)).mono ?_;rintro e w8 ⟨ps,u,rfl,hpl,hpp,has⟩;have HS8:=hid (HS7.out.add has);have HO8:=hid (show OutIs g (out++linkT x::ps) (((s.rules.map fun x=>ruleB::ruleFs x)++s.zones.flatMap zoneFs)++(s.links.take (k+1)).map (fun x:LinkP=>[[76,105,110,107],x.target,x.name])) from by rw [takeS _ hx,←List.append_assoc];exact HO.out.add HX.out hpl hpp);have HN8:=hid (nums_next HN.out (show (out.length:Int)+1=bsl+_ from by rw [HBSl.out];exact out_num HO.out hk));clear hpl hpp has HS7 HO HN HX HPx hx hxm;go_wp2_with fail
    go_roundw
    case rel=>exact ⟨k+1,out++linkT x::ps,nnl++[(out.length:Int)+1],u,_,by omega,by go_num,HO8,HN8,HS8⟩
    case measure=>simp [intOf];omega
   ·have hd:decide ((k:Int)<(s.links.length:Int))=false:=by simp;omega
    obtain rfl:k=s.links.length:=by omega
    have HO3:=hid (show OutIs g out (((s.rules.map fun x=>ruleB::ruleFs x)++s.zones.flatMap zoneFs)++s.links.map (fun x:LinkP=>[[76,105,110,107],x.target,x.name])) from by have h:=HO.out;rwa [List.take_length] at h);obtain ⟨qb,db,rfl⟩:=own_form (show wr.ownsRow (ga+1) 3 1 uul nnl.length (flatC encI nnl) from HS.out.rows.own (rInt nnl uul) (List.mem_of_getElem? (i:=3) rfl));have HNB:=hid (HN.out);generalize wr=w3 at *;have c3_:=HS.out.src.cell_ (i:=3) rfl;clear hlt HO HN
    go_upto_region 36 with fail
    clear c3_ hd;obtain ⟨bss,hbs⟩:∃bs:Int,1+(((g+1)*((((s.rules.map fun x=>ruleB::ruleFs x)++s.zones.flatMap zoneFs)++s.links.map (fun x:LinkP=>[[76,105,110,107],x.target,x.name]))).length:Nat):Int)=bs:=⟨_,rfl⟩;have HBSs:=hid hbs.symm;clear hbs
    go_loopw [122] (fun i wr=>∃(k:Nat) (out:List (List UInt8)) (nns:List Int) (vo uus:Value),k≤s.shifts.length∧i=.int .i64 (k:Int)∧Hid (OutIs g out ((((s.rules.map fun x=>ruleB::ruleFs x)++s.zones.flatMap zoneFs)++s.links.map (fun x:LinkP=>[[76,105,110,107],x.target,x.name]))++(s.shifts.take k).map (fun x:List UInt8=>[[83,104,105,102,116],x])))∧Hid (nns=nums bss (g+1) k)∧Hid (LT w #[.slice p1 s.rules.length c1,.slice p2 zs.length c2,.slice p3 s.links.length c3,.slice p4 s.shifts.length c4] g gs gg gr bo ga out vo nnr nnl nns el (.slice qa nnr.length da) u2 (.slice qb nnl.length db) uus [] (.slice none 0 0) wr)) (fun i _=>s.shifts.length-(intOf i).toNat)
    case atStart=>exact ⟨0,out,[],vo,_,Nat.zero_le _,rfl,hid (by simpa using HO3.out),hid rfl,HS⟩
    case round =>
    clear HS;obtain ⟨k,out,nns,vo,uus,hk,rfl,HO,HN,HS⟩:=hrel
    by_cases hlt:k<s.shifts.length
    ·have hd:decide ((k:Int)<(s.shifts.length:Int))=true:=by simp;omega
     obtain ⟨x,hx⟩:∃x,s.shifts[k]? = some x:=⟨_,List.getElem?_eq_getElem hlt⟩;have hxm:=List.mem_of_getElem? hx;obtain ⟨b,o,rfl,hbn,hrow⟩:=HR4.out (by intro h0;rw [h0] at hlt;simp at hlt);have HX:=hid (line_shift (HRT.out.shifts x hxm));have HPx:=hid (HP4.out x hxm);have k0:(0:Int)≤(k:Int):=by omega
     have kl:(k:Int)<(s.shifts.length:Int):=by omega
     have HG0:=hid HS.out.le;have HGX:=hid HS.out.atb.lt;have HOL:=hid (show out.length≤160 from out_le HO.out hg (Nat.le_trans (fk_le (show (((s.rules.map fun x=>ruleB::ruleFs x)++s.zones.flatMap zoneFs)++s.links.map (fun x:LinkP=>[[76,105,110,107],x.target,x.name])).length≤16 from by have:=zones_few HM3.out hm2;simp only [List.length_append,List.length_map];omega) (show k≤5 by omega)) (by decide)));have HNL:=hid (show nns.length≤10 from by rw [HN.out,nums_len];omega);have HC:wr.cell? ⟨b,o+k,none⟩=some (.string ⟨x.toArray⟩):=(HS.out.bel.cell (p:=⟨b,o+k,none⟩) hbn).trans (by have:=hrow k x hx 0 _ rfl;simpa using this);have HS5:=hid (And.intro HS.out True.intro);obtain ⟨qo,do_,rfl⟩:=own_form (show wr.ownsRow (ga+1) 9 1 vo out.length (flatC encS out) from HS.out.rows.own (rStr out vo) (List.mem_of_getElem? (i:=0) rfl));obtain ⟨qn,dn,rfl⟩:=own_form (show wr.ownsRow (ga+1) 3 1 uus nns.length (flatC encI nns) from HS.out.rows.own (rInt nns uus) (List.mem_of_getElem? (i:=4) rfl));clear hrow hbn
     go_upto_region 38 with fail
     clear HC HS;generalize wr=w5 at *;obtain ⟨L,hL⟩:∃L,w5.heap.size=L:=⟨_,rfl⟩;have HLW:=hid (show LowRows L _ from by rw [←hL];exact HS5.out.1.rows.low);have HLL:=hid (show Low L (.slice qn nns.length dn) from fun q hq=>HLW.out (rInt nns (.slice qn nns.length dn)) (List.mem_of_getElem? (i:=4) rfl) q hq);refine wp_region_relsG 7 [[],[],[],[],[],[4],[]] [Form.val,Form.val,Form.val,Form.val,Form.rel (One 3 L (encI ((out.length:Int)+1))),Form.rel (IntRow (ga+1) L (.slice qn nns.length dn) nns ((out.length:Int)+1)),Form.val] (fun W=>LT w #[.slice p1 s.rules.length c1,.slice p2 zs.length c2,.slice p3 s.links.length c3,.slice (some ⟨b,o,none⟩) s.shifts.length c4] g gs gg gr bo ga out (.slice qo out.length do_) nnr nnl nns el (.slice qa nnr.length da) u2 (.slice qb nnl.length db) (.slice qn nns.length dn) [] (.slice none 0 0) W∧L≤W.heap.size) (GOwn 3 1 (ga+1) nns.length (flatC encI nns) (.slice qn nns.length dn)) 5 (by kernel_rfl) (by kernel_rfl) rfl rfl (⟨HS5.out.1.below (Below.refl _ _).drew,by rw [←hL];exact Nat.le_refl _⟩) GOwn.of_below (fun W W2 h=>h.1.size) (fun W W2 k h=>⟨k.1.grow (i:=4) (r:=rInt nns (.slice qn nns.length dn)) rfl h,Nat.le_trans k.2 h.1.size⟩) ⟨lastsG_one HLL.out,IntRow.last,trivial⟩ ?_
     repeat (first|apply exSpec_rel|apply exSpec_new|apply exSpec_val)
     apply relWalkR_ex rfl rfl ?os0 (fun K hK=>?ns0)
     case os0 =>
      intro W hC hF;go_simp
      all_goals first|exact ⟨Below.refl _ _,rfl⟩|exact Below.refl _ _
     case' ns0 =>
      go_simp;refine hK _ ?_;clear hK K
     apply relWalkR_ex rfl rfl ?os1 (fun K hK=>?ns1)
     case os1 =>
      intro W hC hF;have a0:=hC.1.atb.cell_ (i:=3) rfl;go_simp;exact ⟨Below.refl _ _,rfl⟩
     case' ns1 =>
      go_simp;refine hK _ ?_;clear hK K
     apply relWalkR_ex rfl rfl ?os2 (fun K hK=>?ns2)
     case os2 =>
      intro W hC hF;go_simp
      all_goals first|exact ⟨Below.refl _ _,rfl⟩|exact Below.refl _ _
     case' ns2 =>
      go_simp;refine hK _ ?_;clear hK K
     apply relWalkR_ex rfl rfl ?os3 (fun K hK=>?ns3)
     case os3 =>
      intro W hC hF;have hbx:=hC.1.box;go_simp;exact (next_any hbx (by have:=HOL.out;omega)).mono fun e w2 ⟨he,hb⟩=>⟨he,hb⟩
     case' ns3 =>
      go_simp;refine hK _ ?_;clear hK K
     apply relWalkR_rel rfl rfl ?os4 (fun u4 K hK=>?ns4)
     case os4 =>
      intro W hC hF;have hL9:=hC.2;go_simp;exact ⟨(Below.refl _ _).alloc (Nat.le_refl _) _,_,rfl,Blk.new' _ _ _ rfl,hL9⟩
     case' ns4 =>
      go_simp;refine hK _ ?_;clear hK K
     apply relWalkR_wr rfl rfl ?os5 (fun u5 K hK=>?ns5)
     case os5 =>
      intro W hC hF;obtain ⟨⟨g1,rfl,hb1,hg1⟩,-⟩:=hF;have hL9:L≤W.heap.size:=hC.2;have hga:=hC.1.atb.lt;refine relAtR_push2 rfl (ga+1) L iint zint 1 Tryz.underlying32 hiint hzint hszint hbyint hzcint (by decide) (.slice qn nns.length dn) nns.length (flatC encI nns) rfl (hC.1.rows.own (rInt nns (.slice qn nns.length dn)) (List.mem_of_getElem? (i:=4) rfl)) g1 1 (encI ((out.length:Int)+1)) rfl hb1 rfl (by simp [encI,Value.oneCell']) (by have:=HNL.out;omega) (by omega) hL9 (fun u w' hG=>?_);unfold IntRow;rw [flatC_snoc];exact hG
     case' ns5 =>
      go_simp;refine hK _ ?_;clear hK K
     apply relWalkR_ex rfl rfl ?os6 (fun K hK=>?ns6)
     case os6 =>
      intro W hC hF;go_simp
      all_goals first|exact ⟨Below.refl _ _,rfl⟩|exact Below.refl _ _
     case' ns6 =>
      go_simp;refine hK _ ?_;clear hK K
     apply relWalkR_end
     intro W hC hF hU;obtain ⟨h9,-⟩:=hF;have a0:=hC.1.atb.cell_ (i:=3) rfl;have f0:=hC.1.atb.frozen 3;have HS9:=hid (And.intro (hC.1.put3 (n:=(out.length:Int)+1) (by show W.ownsRow (ga+1) 3 1 _ (nns++[(out.length:Int)+1]).length (flatC encI (nns++[(out.length:Int)+1]));rw [show (nns++[(out.length:Int)+1]).length=nns.length+1 from by simp];exact h9.1) h9.2 HLW.out) True.intro);obtain ⟨q9,d9,rfl⟩:=own_form h9.1;clear hU hC h9 HLW HLL hL HS5
     go_upto_region 39 with fail
     generalize W.setCell ⟨ga,3,none⟩ (.slice q9 (nns.length+1) d9)=w6 at *;clear a0 f0;go_wp2_with fail
     refine (HPx.out _ HS9.out.1.bel).mono ?_;rintro e w7 ⟨rfl,hb7⟩;have HS7:=hid (HS9.out.1.below hb7);clear hb7 HS9;go_wp2_with fail
     refine (add_any (g:=g) (shiftT x) _ HS7.out.box (HS7.out.rows.own (rStr out (.slice qo out.length do_)) (List.mem_of_getElem? (i:=0) rfl)) HS7.out.gap (by have:=HG0.out;omega) hg (by have:=HOL.out;omega) (HS7.out.atb.lt)).mono ?_;rintro e w8 ⟨ps,u,rfl,hpl,hpp,has⟩;have HS8:=hid (HS7.out.add has);have HO8:=hid (show OutIs g (out++shiftT x::ps) ((((s.rules.map fun x=>ruleB::ruleFs x)++s.zones.flatMap zoneFs)++s.links.map (fun x:LinkP=>[[76,105,110,107],x.target,x.name]))++(s.shifts.take (k+1)).map (fun x:List UInt8=>[[83,104,105,102,116],x])) from by rw [takeS _ hx,←List.append_assoc];exact HO.out.add HX.out hpl hpp);have HN8:=hid (nums_next HN.out (show (out.length:Int)+1=bss+_ from by rw [HBSs.out];exact out_num HO.out hk));clear hpl hpp has HS7 HO HN HX HPx hx hxm;go_wp2_with fail
     go_roundw
     case rel=>exact ⟨k+1,out++shiftT x::ps,nns++[(out.length:Int)+1],u,_,by omega,by go_num,HO8,HN8,HS8⟩
     case measure=>simp [intOf];omega
    ·have hd:decide ((k:Int)<(s.shifts.length:Int))=false:=by simp;omega
     obtain rfl:k=s.shifts.length:=by omega
     have HO4:=hid (show OutIs g out (srcFs s) from by have h:=HO.out;rw [List.take_length] at h;exact h);have HNC:=hid (HN.out);obtain ⟨qo,do_,rfl⟩:=own_form (show wr.ownsRow (ga+1) 9 1 vo out.length (flatC encS out) from HS.out.rows.own (rStr out vo) (List.mem_of_getElem? (i:=0) rfl));obtain ⟨qe,de,rfl⟩:=own_form (show wr.ownsRow (ga+1) 32 1 u2 el.length (flatC encW el) from HS.out.rows.own (rIrow el u2) (List.mem_of_getElem? (i:=2) rfl));obtain ⟨qd,dd,rfl⟩:=own_form (show wr.ownsRow (ga+1) 3 1 uus nns.length (flatC encI nns) from HS.out.rows.own (rInt nns uus) (List.mem_of_getElem? (i:=4) rfl));have b0:=HS.out.box.cell_ (i:=0) rfl;have a0_:=HS.out.atb.cell_ (i:=0) rfl;have r0_:=HS.out.res.cell_ (i:=0) rfl;have f0_:=HS.out.res.frozen 0;have a1_:=HS.out.atb.cell_ (i:=1) rfl;have r1_:=HS.out.res.cell_ (i:=1) rfl;have f1_:=HS.out.res.frozen 1;have a2_:=HS.out.atb.cell_ (i:=2) rfl;have r2_:=HS.out.res.cell_ (i:=2) rfl;have f2_:=HS.out.res.frozen 2;have a3_:=HS.out.atb.cell_ (i:=3) rfl;have r3_:=HS.out.res.cell_ (i:=3) rfl;have f3_:=HS.out.res.frozen 3;have HLE:=hid HS.out.le;clear hlt HO HN
     go_upto_region 42 with fail
     go_region
     have HF:=hid (show Rows (ga+1) (lnRows out (.slice qo out.length do_) nnr nnl nns el (.slice qa nnr.length da) (.slice qe el.length de) (.slice qb nnl.length db) (.slice qd nns.length dd) [] (.slice none 0 0)) (((((wr.setCell ⟨gr,0,none⟩ (.slice qa nnr.length da)).setCell ⟨gr,1,none⟩ (.slice qe el.length de)).setCell ⟨gr,2,none⟩ (.slice qb nnl.length db)).setCell ⟨gr,3,none⟩ (.slice qd nns.length dd)).drew)∧Below gs w (((((wr.setCell ⟨gr,0,none⟩ (.slice qa nnr.length da)).setCell ⟨gr,1,none⟩ (.slice qe el.length de)).setCell ⟨gr,2,none⟩ (.slice qb nnl.length db)).setCell ⟨gr,3,none⟩ (.slice qd nns.length dd)).drew)∧Blk (((((wr.setCell ⟨gr,0,none⟩ (.slice qa nnr.length da)).setCell ⟨gr,1,none⟩ (.slice qe el.length de)).setCell ⟨gr,2,none⟩ (.slice qb nnl.length db)).setCell ⟨gr,3,none⟩ (.slice qd nns.length dd)).drew) gr 35 #[.slice qa nnr.length da,.slice qe el.length de,.slice qb nnl.length db,.slice qd nns.length dd] from by
      have hle:=HLE.out;have h1:=((((HS.out.rows.farB (q:=gr) (j:=0) (by omega) (.slice qa nnr.length da)).farB (q:=gr) (j:=1) (by omega) (.slice qe el.length de)).farB (q:=gr) (j:=2) (by omega) (.slice qb nnl.length db)).farB (q:=gr) (j:=3) (by omega) (.slice qd nns.length dd));have h2:=((((HS.out.bel.setCell (p:=⟨gr,0,none⟩) (by show gs≤gr;omega) (.slice qa nnr.length da)).setCell (p:=⟨gr,1,none⟩) (by show gs≤gr;omega) (.slice qe el.length de)).setCell (p:=⟨gr,2,none⟩) (by show gs≤gr;omega) (.slice qb nnl.length db)).setCell (p:=⟨gr,3,none⟩) (by show gs≤gr;omega) (.slice qd nns.length dd));have h3:=(((HS.out.res.set_ 0 (.slice qa nnr.length da)).set_ 1 (.slice qe el.length de)).set_ 2 (.slice qb nnl.length db)).set_ 3 (.slice qd nns.length dd);exact ⟨h1.below (Below.refl _ _).drew,h2.drew,h3.below (Below.refl _ _).drew h3.lt⟩)
     generalize ((((wr.setCell ⟨gr,0,none⟩ (.slice qa nnr.length da)).setCell ⟨gr,1,none⟩ (.slice qe el.length de)).setCell ⟨gr,2,none⟩ (.slice qb nnl.length db)).setCell ⟨gr,3,none⟩ (.slice qd nns.length dd)).drew=wz at *;clear HS;go_wp2_with fail
     have q0:=HF.out.2.2.cell_ (i:=0) rfl;have qf0:=HF.out.2.2.frozen 0;have q1:=HF.out.2.2.cell_ (i:=1) rfl;have qf1:=HF.out.2.2.frozen 1;have q2:=HF.out.2.2.cell_ (i:=2) rfl;have qf2:=HF.out.2.2.frozen 2;have q3:=HF.out.2.2.cell_ (i:=3) rfl;have qf3:=HF.out.2.2.frozen 3
     have e2:nnl=(srcNs (g+1) s).links:=by
      rw [HNB.out,HBSl.out]
      show nums _ _ _=nums _ _ _
      congr 1
      simp only [List.length_append,List.length_map,Nat.mul_add]
      omega
     have e3:nns=(srcNs (g+1) s).shifts:=by
      rw [HNC.out,HBSs.out]
      show nums _ _ _=nums _ _ _
      congr 1
      simp only [List.length_append,List.length_map,Nat.mul_add]
      omega
     refine bodyPost_ret (v:=.tuple #[.slice qo out.length do_,.agg #[.slice qa nnr.length da,.slice qe el.length de,.slice qb nnl.length db,.slice qd nns.length dd],.bool true]) (by simp [results,Tryz.results5,go_sem,q0,qf0,q1,qf1,q2,qf2,q3,qf3]) rfl ⟨⟨out,_,_,_,_,_,el,rfl,⟨ga+1,(HF.out.1.own (rStr out (.slice qo out.length do_)) (List.mem_of_getElem? (i:=0) rfl))⟩,⟨?_,?_,HN2.out,fun q hq=>?_,?_,?_⟩,HO4.out⟩,by rw [HGS.out];exact HF.out.2.1⟩
     ·show RowsAt _ _ 1 encI _ (nums 1 (g+1) s.rules.length)
      rw [←HNA.out];exact rows_of_own (by decide) (fun x=>rfl) (HF.out.1.own (rInt nnr (.slice qa nnr.length da)) (List.mem_of_getElem? (i:=1) rfl))
     ·exact rows_of_own (by decide) (fun x=>rfl) (HF.out.1.own (rIrow el (.slice qe el.length de)) (List.mem_of_getElem? (i:=2) rfl))
     ·exact rows_of_own (by decide) (fun x=>rfl) (HF.out.1.own (rInt q.2 q.1) (List.mem_append_right _ (List.mem_map.2 ⟨q,hq,rfl⟩)))
     ·rw [←e2]
      exact rows_of_own (by decide) (fun x=>rfl) (HF.out.1.own (rInt nnl (.slice qb nnl.length db)) (List.mem_of_getElem? (i:=3) rfl))
     ·rw [←e3]
      exact rows_of_own (by decide) (fun x=>rfl) (HF.out.1.own (rInt nns (.slice qd nns.length dd)) (List.mem_of_getElem? (i:=4) rfl))
end Go.Proofs.YtboagmbmmoomiaaGreatDoor
