/-
  An argument of type Tree, opened.
-/
import Derived.Test.YtboagmbmmoomiaaGreatDoorRuleArgs
import Derived.Test.YtboagmbmmoomiaaGreatDoorTreeAt
set_option linter.unusedVariables false
set_option linter.unusedSimpArgs false
set_option maxRecDepth 100000
set_option maxRecDepth 100000
set_option maxHeartbeats 4000000
namespace Go.Proofs.YtboagmbmmoomiaaGreatDoor
open Go.ChangeShapes Go.WideShapes Go.ChangeAt Go.RowKit
section
variable {H:Type} {enc:TypeId × Value→H} {P:Program} {w:World} {base:Nat} {sp:Nat→Bool} {held:Bool} {fuel:Nat} {t:TypeId} {cs:List Value} {x:DataW H × List MemPlace}
theorem okWide_agg {r:Reach} {v:Value} {fs:Array Field} (ht:P.underlying t=some (.struct fs)) (h:Value.okWide P w r base t v):∃cs,v=.agg cs:=by
 unfold Value.okWide at h;rw [ht] at h;obtain ⟨cs,h1,_⟩:=h;exact ⟨cs,h1⟩
theorem struct_f {fs:Array Field} (ht:P.underlying t=some (.struct fs)) (h:DataW.trod enc P w base sp held fuel t cs=some x) {i:Nat} {f:Field} (hf:fs[i]? = some f) :
 ∃m y,DataW.trod enc P w base sp held m f.type ((cs.drop f.offset).take (P.cellsOf f.type))=some y:=by
 obtain ⟨xs,m,rfl,hx,hl,hxl,hall⟩:=DataW.trod_struct ht h
 have hi:i<xs.length:=by
  rw [hxl]
  rcases Nat.lt_or_ge i fs.size with h|h
  ·exact h
  ·rw [Array.getElem?_eq_none h] at hf;cases hf
 exact ⟨m,xs[i],(hall i f hf).trans (List.getElem?_eq_getElem hi)⟩
theorem struct_len {fs:Array Field} (ht:P.underlying t=some (.struct fs)) (h:DataW.trod enc P w base sp held fuel t cs=some x):cs.length=P.cellsOf t:=by
 obtain ⟨xs,m,rfl,hx,hl,hxl,hall⟩:=DataW.trod_struct ht h;exact hl
theorem list_eq {cl L:List Value} (h:cl.length=L.length) (h2:∀i,i<L.length→cl[i]? = L[i]?):cl=L:=by
 apply List.ext_getElem?
 intro i
 rcases Nat.lt_or_ge i L.length with hi|hi
 ·exact h2 i hi
 ·rw [List.getElem?_eq_none (by omega),List.getElem?_eq_none hi]
theorem rows_open {α:Type} {e:TypeId} {k:Nat} {en:α→Array Value} {Q:α→Prop} (ht:P.underlying t=some (.slice e)) (hk:P.cellsOf e=k) (hk0:0<k) (hen:∀a,(en a).size=k)
 (hdec:∀m cl y,DataW.trod enc P w base sp held m e cl=some y→∃a,cl=(en a).toList∧Q a) (h:DataW.trod enc P w base sp held fuel t cs=some x):∃v xs,cs=[v]∧RowsAt w w.heap.size k en v xs∧∀a ∈ xs,Q a:=by
 rcases DataW.trod_slice ht h with ⟨hcs,_⟩|⟨a,len,cap,elems,rest,n,_,hcs,hx,_,hl,_,hlen,hel,_⟩
 ·exact ⟨_,[],hcs,⟨none,0,rfl,fun h=>absurd rfl h⟩,fun a h=>absurd h List.not_mem_nil⟩
 ·have h1:∀i:Fin len,∃a':α,w.cells? base (a.add (i.1*k)) k=some (en a').toList∧Q a':=fun i=>by
   have hE:=hel i.1 i.2;rw [List.getElem?_eq_getElem (by omega)] at hE;obtain ⟨cl,hc1,hc2⟩:=Option.bind_eq_some_iff.1 hE;obtain ⟨a',rfl,hq⟩:=hdec _ _ _ hc2;rw [hk] at hc1;exact ⟨a',hc1,hq⟩
  obtain ⟨f,hf⟩:=Classical.axiomOfChoice h1;refine ⟨_,List.ofFn f,hcs,⟨some a,cap,by rw [List.length_ofFn],fun h0=>?_⟩,fun a' ha=>?_⟩
  ·have hpos:0<len:=by
    rcases Nat.eq_zero_or_pos len with h|h
    ·subst h;exact absurd rfl h0
    ·exact h
   obtain ⟨v0,hv0⟩:∃v0,(en (f ⟨0,hpos⟩)).toList[0]? = some v0:=⟨_,List.getElem?_eq_getElem (by rw [Array.length_toList,hen];exact hk0)⟩;have c0:=cells_at (hf ⟨0,hpos⟩).1 hv0;have hs:=World.cell?_spot c0;obtain ⟨b,o,spot⟩:=a;obtain rfl:spot=none:=by simpa [Addr.add] using hs
   have add_n:∀o n:Nat,(⟨b,o,none⟩:Addr).add n=⟨b,o+n,none⟩:=fun o n=>by unfold Addr.add;split<;>simp_all
   rw [add_n,add_n] at c0;refine ⟨b,o,rfl,block_lt_of_cell c0,fun i x hx j v hv=>?_⟩;rw [List.getElem?_ofFn] at hx
   split at hx
   ·rename_i hi
    simp only [Option.some.injEq] at hx;subst hx;have:=cells_at (hf ⟨i,hi⟩).1 hv;rwa [add_n,add_n] at this
   ·cases hx
  ·rw [List.mem_ofFn] at ha
   obtain ⟨i,rfl⟩:=ha;exact (hf i).2
end
section
variable {H:Type} {enc:TypeId × Value→H} {w:World} {base:Nat} {sp:Nat→Bool} {held:Bool} {fuel:Nat} {cs:List Value} {x:DataW H × List MemPlace}
theorem dc_u8:Tryz.prog.cellsOf 5=1:=by kernel_rfl
theorem dc_T:Tryz.prog.cellsOf 24=5:=by kernel_rfl
theorem dc_sU:Tryz.prog.cellsOf 22=1:=by kernel_rfl
theorem leaf_intw {P:Program} {t:TypeId} {k:IntKind} {o:Nat} (ht:P.underlying t=some (.int k)) (hc:P.cellsOf t=1) (h:DataW.trod enc P w base sp held fuel t ((cs.drop o).take (P.cellsOf t))=some x):∃n,cs[o]? = some (.int k n)∧(Lit.int k n).wf=true:=by
 obtain ⟨n,e,_,hw⟩:=DataW.trod_int ht h;rw [hc] at e;exact ⟨n,one_at e,hw⟩
theorem leaf_u8 {o:Nat} (h:DataW.trod enc Tryz.prog w base sp held fuel 5 ((cs.drop o).take (Tryz.prog.cellsOf 5))=some x):∃n:Nat,cs[o]? = some (.int .u8 (n:Int))∧n<256:=by
 obtain ⟨a,e,hw⟩:=leaf_intw Tryz.underlying5 dc_u8 h;have hb:=bounds_u8 hw;obtain ⟨n,rfl⟩:=Int.eq_ofNat_of_zero_le hb.1;exact ⟨n,e,by omega⟩
theorem dec_u8 (h:DataW.trod enc Tryz.prog w base sp held fuel 5 cs=some x):∃n:Nat,cs=(encY8 n).toList∧n<256:=by
 obtain ⟨a,e,_,hw⟩:=DataW.trod_int Tryz.underlying5 h;have hb:=bounds_u8 hw;obtain ⟨n,rfl⟩:=Int.eq_ofNat_of_zero_le hb.1;exact ⟨n,e,by omega⟩
theorem open_tree {r:Reach} {b0:Nat} {v:Value} {d:DataW H} {p:List MemPlace} (hv:Value.okWide Tryz.prog w r b0 24 v) (h:DataW.Trod enc Tryz.prog w 0 (fun _=>true) true 24 v d p):∃(a1 a2 a3 a4:Nat) (v5:Value) (l5:List Nat),v=.agg (treeC a1 a2 a3 a4 v5)∧a1<256∧a2<256∧a3<256∧a4<256∧RowsAt w w.heap.size 1 encY8 v5 l5∧∀x ∈ l5,x<256:=by
 obtain ⟨cs,rfl⟩:=okWide_agg Tryz.underlying24 hv;obtain ⟨fuel,h⟩:=h;have h:DataW.trod enc Tryz.prog w 0 (fun _=>true) true fuel 24 cs.toList=some (d,p):=h;obtain ⟨m1,y1,g1⟩:=struct_f Tryz.underlying24 h (i:=0) rfl;have g1:DataW.trod enc Tryz.prog w 0 (fun _=>true) true m1 5 ((cs.toList.drop 0).take (Tryz.prog.cellsOf 5))=some y1:=g1;obtain ⟨a1,e1,b1⟩:=leaf_u8 g1;obtain ⟨m2,y2,g2⟩:=struct_f Tryz.underlying24 h (i:=1) rfl;have g2:DataW.trod enc Tryz.prog w 0 (fun _=>true) true m2 5 ((cs.toList.drop 1).take (Tryz.prog.cellsOf 5))=some y2:=g2;obtain ⟨a2,e2,b2⟩:=leaf_u8 g2;obtain ⟨m3,y3,g3⟩:=struct_f Tryz.underlying24 h (i:=2) rfl;have g3:DataW.trod enc Tryz.prog w 0 (fun _=>true) true m3 5 ((cs.toList.drop 2).take (Tryz.prog.cellsOf 5))=some y3:=g3;obtain ⟨a3,e3,b3⟩:=leaf_u8 g3;obtain ⟨m4,y4,g4⟩:=struct_f Tryz.underlying24 h (i:=3) rfl;have g4:DataW.trod enc Tryz.prog w 0 (fun _=>true) true m4 5 ((cs.toList.drop 3).take (Tryz.prog.cellsOf 5))=some y4:=g4;obtain ⟨a4,e4,b4⟩:=leaf_u8 g4;obtain ⟨m5,y5,g5⟩:=struct_f Tryz.underlying24 h (i:=4) rfl;have g5:DataW.trod enc Tryz.prog w 0 (fun _=>true) true m5 22 ((cs.toList.drop 4).take (Tryz.prog.cellsOf 22))=some y5:=g5;rw [dc_sU] at g5;obtain ⟨v5,l5,e5,k5,q5⟩:=rows_open (α:=Nat) (en:=encY8) (Q:=(· < 256)) Tryz.underlying22 dc_u8 (by decide) (fun _=>rfl) (fun m cl y hy=>dec_u8 hy) g5;have hl:=struct_len Tryz.underlying24 h;rw [dc_T] at hl
 have ecs:cs.toList=[.int .u8 (a1:Int),.int .u8 (a2:Int),.int .u8 (a3:Int),.int .u8 (a4:Int),v5]:=list_eq hl fun i hi=>by
  match i,hi with
  | 0,_=>exact e1
  | 1,_=>exact e2
  | 2,_=>exact e3
  | 3,_=>exact e4
  | 4,_=>exact one_at e5
  | n+5,h=>exact absurd (show n+5<5 from h) (by omega)
 obtain rfl:cs=treeC a1 a2 a3 a4 v5:=Array.ext' ecs;exact ⟨a1,a2,a3,a4,v5,l5,rfl,b1,b2,b3,b4,k5,q5⟩
end
end Go.Proofs.YtboagmbmmoomiaaGreatDoor
