/-
  The law SourceLines returns true at every input, and each argument reads afterwards as it read before; the listed package-level variables start as the program's text lays them (the card ties them).
-/
import Derived.Test.YtkniciefhodjlaaGreatDoorWitLn
import Derived.Test.YtkniciefhodjlaaGreatDoorOwnTie
import Derived.Test.YtkniciefhodjlaaGreatDoorSrcLinesL
import Derived.Test.YtkniciefhodjlaaGreatDoorLaidLn
import Derived.Test.YtkniciefhodjlaaGreatDoorTreeArgs
set_option linter.unusedVariables false
set_option maxRecDepth 100000
set_option maxHeartbeats 4000000
namespace Go.Proofs.YtkniciefhodjlaaGreatDoor.sourceLines
open Go.ChangeShapes Go.WideShapes Go.ChangeAt Go.RowKit
theorem handed_of {H:Type} {enc:TypeId × Value→H} {C:Checked} {os:Os} {f:FuncId} {fn:Func} {s:ChangeSpec} {conds:List PathCond} {L:World→Prop} (hL:∀w w':World,w.heap=w'.heap→L w→L w')
 (hown:ownKnob C.prog.godebug=none) (hst:os.Started) (hni:C.prog.inits.idxOf? f=none) (hfn:C.prog.funcs[f]? = some fn)
 (hwit:∃(w:World) (tape:Tape) (i:Input),w.os=os∧(w.forCall tape i).Shaped C.prog∧i.vars=[]∧Input.okWide C.prog (w.forCall tape i) .any w.heap.size f i ∧
  ((s.pre enc C.prog fn conds false (w.forCall tape i).memory i.args∧L (w.forCall tape i).memory)∧sizedMet enc C.prog fn (OpenSpec.ofChange s) false (w.forCall tape i).memory i.args)∧({} : Assume).holds C.prog (lone (Frame.enter C.prog f i.args .normal) [] (w.forCall tape i)))
 (hc:∀(W:World) (base:Nat) (args:Array Value) (ds gs:List (DataW H)) (before:List MemPlace),
  (∀(j:Nat) t v,fn.params[j]? = some t→args[j]? = some v→Value.okWide C.prog W .any base t v)→DataW.Whole enc C.prog fn.params.toList s.vars false W args.toList ds gs before→L W→W.ShapedOpen C.prog →
  Calls C.prog f args W fun e W'=>∃v,e=.returned v∧s.post enc C.prog fn false true false false W args v W') :
 ReturnsInHanded {} C os f .any (fun w args=>(s.pre enc C.prog fn conds false w args∧L w)∧sizedMet enc C.prog fn (OpenSpec.ofChange s) false w args) (s.post enc C.prog fn false true false false):=by
 refine returnsInHanded_of_calls hown hst hni hwit fun w tape i hos hshape hvars hok hpre hh=>?_
 have hval:=hok;obtain ⟨-,-,-,fn',h1,-,-,-,-,h2⟩:=hval
 cases Option.some.inj (h1.symm.trans hfn)
 obtain ⟨⟨⟨ds,gs,before,hw,-⟩,hl⟩,-⟩:=hpre
 exact (hc (w.forCall tape i) w.heap.size i.args ds gs before h2 (DataW.Whole.of_heap (w':=w.forCall tape i) (by rfl) hw) (hL _ _ (by rfl) hl) hshape).mono fun e W' ⟨v,he,hp⟩=>by
  subst he;exact ChangeSpec.post_blind hp
theorem contract (H:Type) (enc:TypeId × Value→H) (W:World) (base:Nat) (args:Array Value) (ds gs:List (DataW H)) (before:List MemPlace)
 (hval:∀(j:Nat) t v,Tryz.f3.params[j]? = some t→args[j]? = some v→Value.okWide Tryz.prog W .any base t v)
 (hW:DataW.Whole enc Tryz.prog Tryz.f3.params.toList Rows.sourceLinesSpec.vars false W args.toList ds gs before) (hL:laidMetH Tryz.prog Rows.sourceLinesRow.laid W) (hSh:W.ShapedOpen Tryz.prog) :
 Calls Tryz.prog 3 args W fun e W'=>∃v,e=.returned v∧Rows.sourceLinesSpec.post enc Tryz.prog Tryz.f3 false true false false W args v W':=by
 have hW':=hW;obtain ⟨p,q,hA0,hV,rfl,hfz,hnd⟩:=hW;have hA:DataW.TrodAll enc Tryz.prog W 0 (fun _=>true) true Tryz.f3.params.toList args.toList ds p:=hA0;have hAll:=hA;rw [Tryz.params3] at hA hval;obtain ⟨v0,vs0,d0,ds0,p0,q0,hargs,rfl,rfl,h0,r0⟩:=trodAll_cons hA;obtain ⟨v1,vs1,d1,ds1,p1,q1,rfl,rfl,rfl,h1,r1⟩:=trodAll_cons r0;obtain ⟨rfl,rfl,rfl⟩:=trodAll_nil r1;obtain rfl:args=#[v0,v1]:=Array.ext' hargs;obtain ⟨rfl,rfl⟩:=trodVars_none hV;obtain ⟨a1,a2,a3,a4,v5,l5,rfl,b1,b2,b3,b4,k5,q5⟩:=open_tree (hval 0 _ _ rfl rfl) h0;obtain ⟨g,rfl⟩:=open_byte (hval 1 _ _ rfl rfl) h1;refine (sourceLines_any a1 a2 a3 a4 g.toNat v5 l5 W k5 q5 b1 b2 b3 b4 (UInt8.toNat_lt g) (sw_of hL hSh)).mono fun e W' ⟨he,bel⟩=>?_
 subst he;exact ⟨_,rfl,_,_,_,[],_,[],hW',trodAll_mk1 (shut_bool Tryz.underlying4 _),trodAll_below laidOut bel (by kernel_rfl) hAll,rfl,bel.frame _,fun h=>by cases h⟩
theorem lifted (os:Os) (started:os.Started) (H:Type) (enc:TypeId × Value→H) :
 ReturnsInHanded {} Tryz.checked os 3 .any (fun w args=>(Rows.sourceLinesSpec.pre enc Tryz.prog Tryz.f3 Rows.sourceLinesRow.domain false w args∧laidMetH Tryz.prog Rows.sourceLinesRow.laid w)∧sizedMet enc Tryz.prog Tryz.f3 (OpenSpec.ofChange Rows.sourceLinesSpec) false w args)
  (Rows.sourceLinesSpec.post enc Tryz.prog Tryz.f3 false true false false):=by
 refine handed_of (C:=Tryz.checked) (L:=fun w=>laidMetH Tryz.prog Rows.sourceLinesRow.laid w) (fun _ _ hh h=>h.of_heap hh) own started (by kernel_rfl) Tryz.func3
  (ChangeSpec.witness_shaped (enc:=enc) (C:=Tryz.checked) (os:=os) (X:=fun w _=>laidMetH Tryz.prog Rows.sourceLinesRow.laid w) false (witD os) #[.agg (treeC 0 0 0 0 (.slice none 0 0)),.int .u8 0] 8 (witD_os os)
   (witD_shaped os) (by kernel_rfl) (by kernel_rfl) (by kernel_rfl) (witD_met os _)) ?_
 intro W base args ds gs before hval hW hL hSh;exact contract H enc W base args ds gs before hval hW hL hSh
theorem said:Rows.SourceLinesSaid :=
 OpenClaim.holds_of_wide 3 Tryz.f3 rfl rfl rfl rfl rfl rfl rfl ⟨rfl,rfl,rfl,rfl,rfl⟩ rfl rfl rfl rfl rfl (by kernel_rfl) Tryz.func3 (by kernel_rfl)
  (of_decide_eq_true (by kernel_rfl)) (by unfold Func.isWrapper;first|(rw [if_pos (by decide +kernel)];kernel_rfl)|(rw [if_neg (by decide +kernel)];exact ⟨rfl,rfl⟩))
  (fun os started H enc _=>lifted os started H enc)
theorem plain (f:FuncId) (fn:Func) (hf:Tryz.pinned.checked.prog.funcNamed "analemma/analemmalaw13.SourceLines" = some f) (hfn:Tryz.pinned.checked.prog.funcs[f]? = some fn) :
 true=Tryz.pinned.checked.prog.looks []∧∀(j:Nat) t,fn.params[j]? = some t→Tryz.pinned.checked.prog.wantsStandIn t=false:=by
 obtain rfl:f=3:=Option.some.inj ((show Tryz.prog.funcNamed "analemma/analemmalaw13.SourceLines" = some 3 by kernel_rfl).symm.trans hf) |>.symm;obtain rfl:fn=Tryz.f3:=(Option.some.inj (Tryz.func3.symm.trans hfn)).symm;refine ⟨by kernel_rfl,fun j t ht=>?_⟩;have hall:(Tryz.f3.params.toList.all fun u => !Tryz.prog.wantsStandIn u)=true:=by kernel_rfl
 have hm:t ∈ Tryz.f3.params.toList:=Array.mem_toList_iff.2 (Array.mem_of_getElem? ht);exact (show Tryz.prog.wantsStandIn t=false by simpa using List.all_eq_true.1 hall t hm)
theorem proved:Rows.SourceLinesCardSaid :=
 Claim7.holds_tied_plain_at .later [] _ _ _ _ said (fun _ h=>by cases h) (by kernel_rfl) (fun _ h=>by cases h) sourceLines_row_tied rfl ⟨rfl,rfl⟩ (by kernel_rfl) rfl plain (by kernel_rfl)
#print axioms proved
end Go.Proofs.YtkniciefhodjlaaGreatDoor.sourceLines
