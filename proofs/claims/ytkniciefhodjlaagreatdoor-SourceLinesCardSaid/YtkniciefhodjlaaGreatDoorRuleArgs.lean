/-
  What a listed variable's reading gives: the cells of arrays, structs and slices, part by part.
  What the cards of this seat share: all arguments read again behind a call that only makes new memory; the witness's world, in which the listed variables lie.
  Arguments of the laws, opened: a byte, a number of sixteen bits, a string, a row of strings.
-/
import Derived.Test.YtkniciefhodjlaaGreatDoorRows
import Derived.LaidMore
import Derived.LaidHandle
import Derived.LaidSub
import Derived.OpenShut
import Derived.Lib.LaidU8
import Derived.Test.YtkniciefhodjlaaGreatDoorCards
import Derived.LaidByTextLater
import Derived.SevenTiedAt
import Derived.LaidOnce
import Derived.Carry
import Derived.ChangeOld
import Derived.ProofKit
import Derived.Lay
import Derived.Deep.DeepHandedRow
import Derived.Test.YtkniciefhodjlaaGreatDoorOffAll
import Derived.SliceStrings
import Derived.ShutString
import Derived.Lib.SmallJoins
set_option linter.unusedVariables false
set_option maxRecDepth 100000
set_option maxRecDepth 100000
set_option maxHeartbeats 4000000
namespace Go.Proofs.YtkniciefhodjlaaGreatDoor
theorem reads_plain {P:Program} {l:List (String × DataW Unit)} {W:World} (h:laidMetH P l W) {n:String} {d:DataW Unit} (hm:(n,d) ∈ l) (hp:d.handleName?.isNone=true):Lib.VarReads P W n d :=
 Lib.laidMet.reads (laidMetH_iff.1 h).1 (List.mem_filter.2 ⟨hm,hp⟩)
section
variable {H:Type} {enc:TypeId × Value→H} {P:Program} {w:World} {base:Nat} {sp:Nat→Bool} {held:Bool} {fuel:Nat} {t:TypeId} {cs:List Value} {p:List MemPlace}
theorem at_map {α β:Type} {xs:List (α × β)} {ds:List α} (h:xs.map (·.1)=ds) {i:Nat} {d:α} (hd:ds[i]? = some d):∃q,xs[i]? = some (d,q):=by
 rw [←h,List.getElem?_map] at hd
 cases hx:xs[i]? with
 | none=>rw [hx] at hd;cases hd
 | some y=>rw [hx] at hd;simp at hd;subst hd;exact ⟨y.2,rfl⟩
theorem array_at {n:Nat} {e:TypeId} {ds:List (DataW H)} (ht:P.underlying t=some (.array n e)) (h:DataW.trod enc P w base sp held fuel t cs=some (.agg ds,p)) {i:Nat} {d:DataW H} (hd:ds[i]? = some d) :
 ∃m q,DataW.trod enc P w base sp held m e ((cs.drop (i*P.cellsOf e)).take (P.cellsOf e))=some (d,q):=by
 obtain ⟨xs,m,rfl,hx,hl,hxl,hall⟩:=DataW.trod_array ht h
 have hxs:xs.map (·.1)=ds:=by
  have:=congrArg Prod.fst hx
  injection this with this
  exact this.symm
 obtain ⟨q,hq⟩:=at_map hxs hd;have hi:i<n:=by rw [←hxl];exact (List.getElem?_eq_some_iff.1 hq).1
 exact ⟨m,q,(hall i hi).trans hq⟩
theorem struct_at {fs:Array Field} {ds:List (DataW H)} (ht:P.underlying t=some (.struct fs)) (h:DataW.trod enc P w base sp held fuel t cs=some (.agg ds,p)) {i:Nat} {f:Field} {d:DataW H} (hf:fs[i]? = some f) (hd:ds[i]? = some d) :
 ∃m q,DataW.trod enc P w base sp held m f.type ((cs.drop f.offset).take (P.cellsOf f.type))=some (d,q):=by
 obtain ⟨xs,m,rfl,hx,hl,hxl,hall⟩:=DataW.trod_struct ht h
 have hxs:xs.map (·.1)=ds:=by
  have:=congrArg Prod.fst hx
  injection this with this
  exact this.symm
 obtain ⟨q,hq⟩:=at_map hxs hd;exact ⟨m,q,(hall i f hf).trans hq⟩
theorem slice_at {e:TypeId} {ds:List (DataW H)} (ht:P.underlying t=some (.slice e)) (h:DataW.trod enc P w base sp held fuel t cs=some (.slice ds [],p)) :
 ∃a cap,cs=[.slice (some a) ds.length cap]∧∀i d,ds[i]? = some d→∃cl m q,w.cells? base (a.add (i*P.cellsOf e)) (P.cellsOf e)=some cl∧DataW.trod enc P w base sp held m e cl=some (d,q):=by
 rcases DataW.trod_slice ht h with ⟨_,hx⟩|⟨a,len,cap,elems,rest,n,_,hcs,hx,_,hl,_,hlen,hel,_⟩
 ·simp at hx
 ·simp only [Prod.mk.injEq,DataW.slice.injEq] at hx
  obtain ⟨⟨hds,_⟩,_⟩:=hx;have el:ds.length=len:=by rw [hds];simpa using hlen
  refine ⟨a,cap,by rw [el];exact hcs,fun i d hd=>?_⟩;obtain ⟨q,hq⟩:=at_map hds.symm hd;have hi:i<len:=by rw [←hlen];exact (List.getElem?_eq_some_iff.1 hq).1
  have hE:=(hel i hi).trans hq;obtain ⟨cl,hc1,hc2⟩:=Option.bind_eq_some_iff.1 hE;exact ⟨cl,n,q,hc1,hc2⟩
theorem cells_at {a:Addr} {n:Nat} {cl:List Value} (h:w.cells? base a n=some cl) {j:Nat} {v:Value} (hv:cl[j]? = some v):w.cell? (a.add j)=some v:=by
 unfold World.cells? at h
 split at h
 ·have hj:j<n:=by
   have:=mapM_some_length h;have h2:=(List.getElem?_eq_some_iff.1 hv).1
   simp at this
   omega
  have:=mapM_some_get h j j (by simp [hj]);rw [this,hv]
 ·cases h
theorem one_at {i:Nat} {v:Value} (h:(cs.drop i).take 1=[v]):cs[i]? = some v:=by
 have:=congrArg (·[0]?) h
 simpa [List.getElem?_take,List.getElem?_drop] using this
theorem in_at {i m j:Nat} {v:Value} (h:((cs.drop i).take m)[j]? = some v):cs[i+j]? = some v:=by
 rw [List.getElem?_take] at h
 split at h
 ·rwa [List.getElem?_drop] at h
 ·cases h
theorem bool_of {b:Bool} (ht:P.underlying t=some .bool) (h:DataW.trod enc P w base sp held fuel t cs=some (.lit (.bool b),p)):cs=[.bool b]:=by
 obtain ⟨b',h1,h2⟩:=DataW.trod_bool ht h
 cases h2;exact h1
theorem int_of {k:IntKind} {n:Int} (ht:P.underlying t=some (.int k)) (h:DataW.trod enc P w base sp held fuel t cs=some (.lit (.int k n),p)):cs=[.int k n]:=by
 obtain ⟨n',h1,h2,_⟩:=DataW.trod_int ht h
 cases h2;exact h1
theorem string_of {l:List UInt8} (ht:P.underlying t=some .string) (h:DataW.trod enc P w base sp held fuel t cs=some (.lit (.string l),p)):cs=[.string ⟨l.toArray⟩]:=by
 obtain ⟨s,h1,h2,_⟩:=DataW.trod_string ht h
 cases h2
 rw [h1]
end
open Go.ChangeShapes Go.WideShapes Go.ChangeAt Go.RowKit
theorem own:ownKnob Tryz.prog.godebug=none:=by kernel_rfl
theorem laidOut:laidOutB Tryz.prog=true:=by kernel_rfl
def rowedAll (P:Program) (ts:List TypeId):Bool:=ts.all fun t=>P.readableRec t&&decide (t<P.types.size)
theorem trodAll_below {H:Type} {enc:TypeId × Value→H} {P:Program} (hl:laidOutB P=true) {W W':World} (hb:Below W.heap.size W W'):∀ {ts:List TypeId} {vs:List Value} {ds:List (DataW H)} {ps:List MemPlace},rowedAll P ts=true →
 DataW.TrodAll enc P W 0 (fun _=>true) true ts vs ds ps→DataW.TrodAll enc P W' 0 (fun b=>decide (b<W.heap.size)) true ts vs ds ps
 | [],[],[],ps,_,h=>h
 | t::ts,v::vs,d::ds,ps,hr,h=>by
  obtain ⟨p,q,h1,h2,rfl⟩:=h;simp only [rowedAll,List.all_cons,Bool.and_eq_true,decide_eq_true_eq] at hr;have lt:∀x ∈ p,x.block<W.heap.size:=by obtain ⟨m,hm⟩:=h1;exact DataW.trod_lt m _ _ _ hm
  exact ⟨p,q,Below.trod hl hr.1.1 hr.1.2 h1 hb lt,trodAll_below hl hb (by simpa [rowedAll] using hr.2) h2,rfl⟩
section
variable {H:Type} {enc:TypeId × Value→H} {w:World} {r:Reach} {base:Nat} {v:Value} {d:DataW H} {p:List MemPlace}
theorem open_byte (hv:Value.okWide Tryz.prog w r base 5 v) (h:DataW.Trod enc Tryz.prog w 0 (fun _=>true) true 5 v d p):∃c:UInt8,v=.int .u8 (c.toNat:Int):=by
 obtain ⟨a,rfl,_,_,hw⟩:=open_int Tryz.underlying5 hv h;have hb:=bounds_u8 hw;obtain ⟨n,rfl⟩:=Int.eq_ofNat_of_zero_le hb.1;exact ⟨UInt8.ofNat n,by congr 1;simp;omega⟩
end
end Go.Proofs.YtkniciefhodjlaaGreatDoor
