/-
  The listed variables, the table of kinds among them, give the tables that the walks of sources ask for.
-/
import Derived.Test.YtboagmbmmoomiaaGreatDoorRuleArgs
import Derived.Test.YtboagmbmmoomiaaGreatDoorSrcWork
import Derived.LaidLaws
import Derived.Lib.LaidTab
set_option linter.unusedVariables false
set_option maxRecDepth 100000
set_option maxRecDepth 100000
set_option maxHeartbeats 4000000
namespace Go.Proofs.YtboagmbmmoomiaaGreatDoor
open Go.RowKit
theorem gWeeks:Tryz.prog.globalNamed "analemma/word.weeks" = some 3:=by kernel_rfl
theorem tWeeks:(Tryz.prog.globals[3]?).map (·.type)=some 175:=by kernel_rfl
theorem gAscii:Tryz.prog.globalNamed "unicode.asciiFold" = some 14:=by kernel_rfl
theorem tAscii:(Tryz.prog.globals[14]?).map (·.type)=some 304:=by kernel_rfl
theorem gOrbit:Tryz.prog.globalNamed "unicode.caseOrbit" = some 15:=by kernel_rfl
theorem tOrbit:(Tryz.prog.globals[15]?).map (·.type)=some 305:=by kernel_rfl
theorem cString:Tryz.prog.cellsOf 9=1:=by kernel_rfl
theorem cU16:Tryz.prog.cellsOf 303=1:=by kernel_rfl
theorem cPair:Tryz.prog.cellsOf 307=2:=by kernel_rfl
theorem weeks_of {W:World} (h:Lib.VarReads Tryz.prog W "analemma/word.weeks" Rows.laid_analemma_word_weeks):Weeks W:=by
 obtain ⟨g,t,cs,fuel,p,hg,ht,hv,hd⟩:=h;obtain rfl:=Option.some.inj (gWeeks.symm.trans hg);obtain rfl:=Option.some.inj (tWeeks.symm.trans ht);intro i l hl;have hd':DataW.trod (fun _=>()) Tryz.prog W 0 (fun _=>true) false fuel 175 cs.toList=some (.agg (weekL.map fun l=>.lit (.string l)),p):=hd;obtain ⟨m,q,h1⟩:=array_at Tryz.underlying175 hd' (i:=i) (d:=.lit (.string l)) (by rw [List.getElem?_map,hl];rfl);rw [cString,Nat.mul_one] at h1;have h2:=one_at (string_of Tryz.underlying9 h1);rw [World.var?_cell hg hv i,←Array.getElem?_toList];exact h2
theorem add_none (b o n:Nat):(⟨b,o,none⟩:Addr).add n=⟨b,o+n,none⟩:=by unfold Addr.add;split<;>simp_all
theorem ascii_of {W:World} (h:Lib.VarReads Tryz.prog W "unicode.asciiFold" Rows.laid_unicode_asciiFold):∀r v:Nat,(r,v) ∈ [(108,76),(76,108),(97,65),(65,97),(115,383),(83,115),(116,84),(84,116)]→W.cell? ⟨14,r,none⟩=some (.int .u16 (v:Int)):=by
 obtain ⟨g,t,cs,fuel,p,hg,ht,hv,hd⟩:=h;obtain rfl:=Option.some.inj (gAscii.symm.trans hg);obtain rfl:=Option.some.inj (tAscii.symm.trans ht)
 have k:∀ {i:Nat} {v:Int} {ds:List (DataW Unit)},DataW.trod (fun _=>()) Tryz.prog W 0 (fun _=>true) false fuel 304 cs.toList=some (.agg ds,p)→ds[i]? = some (.lit (.int .u16 v))→W.cell? ⟨14,i,none⟩=some (.int .u16 v):=fun {i v ds} hd hi=>by
  obtain ⟨m,q,h1⟩:=array_at Tryz.underlying304 hd hi;rw [cU16,Nat.mul_one] at h1;rw [World.var?_cell hg hv,←Array.getElem?_toList];exact one_at (int_of Tryz.underlying303 h1)
 intro r v hm;simp only [List.mem_cons,Prod.mk.injEq,List.not_mem_nil,or_false] at hm
 rcases hm with ⟨rfl,rfl⟩|⟨rfl,rfl⟩|⟨rfl,rfl⟩|⟨rfl,rfl⟩|⟨rfl,rfl⟩|⟨rfl,rfl⟩|⟨rfl,rfl⟩|⟨rfl,rfl⟩
 all_goals exact k hd rfl
theorem orbit_of {W:World} (h:Lib.VarReads Tryz.prog W "unicode.caseOrbit" Rows.laid_unicode_caseOrbit):∃b o cap,W.cell? ⟨15,0,none⟩=some (.slice (some ⟨b,o,none⟩) 94 cap) ∧
 ∀m v:Nat,(m,v) ∈ [(94,966),(46,837),(22,452),(10,197),(16,304),(20,383),(18,305),(21,83)]→W.cell? ⟨b,o+m,none⟩=some (.int .u16 (v:Int)):=by
 obtain ⟨g,t,cs,fuel,p,hg,ht,hv,hd⟩:=h;obtain rfl:=Option.some.inj (gOrbit.symm.trans hg);obtain rfl:=Option.some.inj (tOrbit.symm.trans ht)
 have k:∀ {ds:List (DataW Unit)},DataW.trod (fun _=>()) Tryz.prog W 0 (fun _=>true) false fuel 305 cs.toList=some (.slice ds [],p)→(∃x y:Int,ds[0]? = some (.agg [.lit (.int .u16 x),.lit (.int .u16 y)]))→∃b o cap,cs.toList=[.slice (some ⟨b,o,none⟩) ds.length cap] ∧
  (∀i (x y:Int),ds[i]? = some (.agg [.lit (.int .u16 x),.lit (.int .u16 y)])→W.cell? ⟨b,o+(i*2),none⟩=some (.int .u16 x)∧W.cell? ⟨b,o+(i*2+1),none⟩=some (.int .u16 y)):=fun {ds} hd h0=>by
  obtain ⟨a,cap,hcs,hel⟩:=slice_at Tryz.underlying305 hd
  have cell:∀i (x y:Int),ds[i]? = some (.agg [.lit (.int .u16 x),.lit (.int .u16 y)])→W.cell? (a.add (i*2))=some (.int .u16 x)∧W.cell? (a.add (i*2+1))=some (.int .u16 y):=fun i x y hi=>by
   obtain ⟨cl,m,q,hc,hr⟩:=hel i _ hi;rw [cPair] at hc;obtain ⟨m0,q0,k0⟩:=struct_at Tryz.underlying307 hr (i:=0) rfl rfl;obtain ⟨m1,q1,k1⟩:=struct_at Tryz.underlying307 hr (i:=1) rfl rfl;have k0:DataW.trod (fun _=>()) Tryz.prog W 0 (fun _=>true) false m0 303 ((cl.drop 0).take (Tryz.prog.cellsOf 303))=some (.lit (.int .u16 x),q0):=k0;have k1:DataW.trod (fun _=>()) Tryz.prog W 0 (fun _=>true) false m1 303 ((cl.drop 1).take (Tryz.prog.cellsOf 303))=some (.lit (.int .u16 y),q1):=k1;rw [cU16] at k0 k1;have e0:=cells_at hc (one_at (int_of Tryz.underlying303 k0));have e1:=cells_at hc (one_at (int_of Tryz.underlying303 k1));rw [add_of_add] at e0 e1;exact ⟨e0,e1⟩
  obtain ⟨x,y,h0⟩:=h0;have hs:=World.cell?_spot (cell 0 x y h0).1;obtain ⟨b,o,spot⟩:=a;obtain rfl:spot=none:=by simpa [Addr.add] using hs
  refine ⟨b,o,cap,hcs,fun i x y hi=>?_⟩;have:=cell i x y hi;rw [add_none,add_none] at this;exact this
 obtain ⟨b,o,cap,hcs,hc⟩:=k hd ⟨_,_,rfl⟩;refine ⟨b,o,cap,?_,fun m v hm=>?_⟩
 ·rw [World.var?_cell hg hv,←Array.getElem?_toList,hcs]
  rfl
 ·simp only [List.mem_cons,Prod.mk.injEq,List.not_mem_nil,or_false] at hm
  rcases hm with ⟨rfl,rfl⟩|⟨rfl,rfl⟩|⟨rfl,rfl⟩|⟨rfl,rfl⟩|⟨rfl,rfl⟩|⟨rfl,rfl⟩|⟨rfl,rfl⟩|⟨rfl,rfl⟩
  ·exact (hc 47 _ _ rfl).1
  ·exact (hc 23 _ _ rfl).1
  ·exact (hc 11 _ _ rfl).1
  ·exact (hc 5 _ _ rfl).1
  ·exact (hc 8 _ _ rfl).1
  ·exact (hc 10 _ _ rfl).1
  ·exact (hc 9 _ _ rfl).1
  ·exact (hc 10 _ _ rfl).2
theorem gMonths:Tryz.prog.globalNamed "analemma/word.months" = some 0:=by kernel_rfl
theorem tMonths:(Tryz.prog.globals[0]?).map (·.type)=some 132:=by kernel_rfl
theorem months_of {W:World} (h:Lib.VarReads Tryz.prog W "analemma/word.months" Rows.laid_analemma_word_months):Months W:=by
 obtain ⟨g,t,cs,fuel,p,hg,ht,hv,hd⟩:=h;obtain rfl:=Option.some.inj (gMonths.symm.trans hg);obtain rfl:=Option.some.inj (tMonths.symm.trans ht);intro i l hl;have hd':DataW.trod (fun _=>()) Tryz.prog W 0 (fun _=>true) false fuel 132 cs.toList=some (.agg (monthL.map fun l=>.lit (.string l)),p):=hd;obtain ⟨m,q,h1⟩:=array_at Tryz.underlying132 hd' (i:=i) (d:=.lit (.string l)) (by rw [List.getElem?_map,hl];rfl);rw [cString,Nat.mul_one] at h1;have h2:=one_at (string_of Tryz.underlying9 h1);rw [World.var?_cell hg hv i,←Array.getElem?_toList];exact h2
theorem gUnits:Tryz.prog.globalNamed "analemma/offset.units" = some 10:=by kernel_rfl
theorem tUnits:(Tryz.prog.globals[10]?).map (·.type)=some 271:=by kernel_rfl
theorem cI64:Tryz.prog.cellsOf 2=1:=by kernel_rfl
theorem units_of {W:World} (h:Lib.VarReads Tryz.prog W "analemma/offset.units" Rows.laid_analemma_offset_units):Units W:=by
 obtain ⟨g,t,cs,fuel,p,hg,ht,hv,hd⟩:=h;obtain rfl:=Option.some.inj (gUnits.symm.trans hg);obtain rfl:=Option.some.inj (tUnits.symm.trans ht)
 have k:∀ {i:Nat} {v:Int} {ds:List (DataW Unit)},DataW.trod (fun _=>()) Tryz.prog W 0 (fun _=>true) false fuel 271 cs.toList=some (.agg ds,p)→ds[i]? = some (.lit (.int .i64 v))→W.cell? ⟨10,i,none⟩=some (.int .i64 v):=fun {i v ds} hd hi=>by
  obtain ⟨m,q,h1⟩:=array_at Tryz.underlying271 hd hi;rw [cI64,Nat.mul_one] at h1;rw [World.var?_cell hg hv,←Array.getElem?_toList];exact one_at (int_of Tryz.underlying2 h1)
 exact ⟨k hd (i:=0) rfl,k hd (i:=1) rfl,k hd (i:=2) rfl⟩
theorem tPows:(Tryz.prog.globals[8]?).map (·.type)=some 243:=by kernel_rfl
theorem pows_of {W:World} (h:Lib.VarReads Tryz.prog W "internal/strconv.uint64pow10" Rows.laid_internal_strconv_uint64pow10):Pows W:=by
 obtain ⟨g,t,cs,fuel,p,hg,ht,hv,hd⟩:=h;obtain rfl:=Option.some.inj (gPows.symm.trans hg);obtain rfl:=Option.some.inj (tPows.symm.trans ht);have hd':DataW.trod (fun _=>()) Tryz.prog W 0 (fun _=>true) false fuel 243 cs.toList=some (Lib.tabData .u64 Lib.pow10Tab,p):=hd;have h1:=Lib.cells_of_tab Tryz.underlying243 Tryz.underlying219 (by kernel_rfl) (by kernel_rfl) hd'
 show W.var? Tryz.prog "internal/strconv.uint64pow10" = some _
 rw [hv,←h1]
theorem tESyn:(Tryz.prog.globals[16]?).map (·.type)=some 74:=by kernel_rfl
theorem tERan:(Tryz.prog.globals[17]?).map (·.type)=some 74:=by kernel_rfl
theorem esyn_of {W:World} (h:Lib.VarReads Tryz.prog W "strconv.ErrSyntax" Rows.laid_strconv_ErrSyntax):ErrSyn W:=by
 obtain ⟨g,t,cs,fuel,p,hg,ht,hv,hd⟩:=h;obtain rfl:=Option.some.inj (gErrSyn.symm.trans hg);obtain rfl:=Option.some.inj (tESyn.symm.trans ht);obtain ⟨_,u,v,hcs,_⟩:=iface_of_trod Tryz.underlying74 hd;exact ⟨u,v,by rw [hv];congr 1;exact Array.ext' hcs⟩
theorem eran_of {W:World} (h:Lib.VarReads Tryz.prog W "strconv.ErrRange" Rows.laid_strconv_ErrRange):ErrRan W:=by
 obtain ⟨g,t,cs,fuel,p,hg,ht,hv,hd⟩:=h;obtain rfl:=Option.some.inj (gErrRan.symm.trans hg);obtain rfl:=Option.some.inj (tERan.symm.trans ht);obtain ⟨_,u,v,hcs,_⟩:=iface_of_trod Tryz.underlying74 hd;exact ⟨u,v,by rw [hv];congr 1;exact Array.ext' hcs⟩
theorem gYears:Tryz.prog.globalNamed "analemma/word.years" = some 13:=by kernel_rfl
theorem tYears:(Tryz.prog.globals[13]?).map (·.type)=some 291:=by kernel_rfl
theorem tos_of {W:World} (h:Lib.VarReads Tryz.prog W "analemma/word.years" Rows.laid_analemma_word_years):Tos W:=by
 obtain ⟨g,t,cs,fuel,p,hg,ht,hv,hd⟩:=h;obtain rfl:=Option.some.inj (gYears.symm.trans hg);obtain rfl:=Option.some.inj (tYears.symm.trans ht);intro i l hl;have hd':DataW.trod (fun _=>()) Tryz.prog W 0 (fun _=>true) false fuel 291 cs.toList=some (.agg (toL.map fun l=>.lit (.string l)),p):=hd;obtain ⟨m,q,h1⟩:=array_at Tryz.underlying291 hd' (i:=i) (d:=.lit (.string l)) (by rw [List.getElem?_map,hl];rfl);rw [cString,Nat.mul_one] at h1;have h2:=one_at (string_of Tryz.underlying9 h1);rw [World.var?_cell hg hv i,←Array.getElem?_toList];exact h2
theorem gLines:Tryz.prog.globalNamed "analemma/word.lines" = some 4:=by kernel_rfl
theorem tLines:(Tryz.prog.globals[4]?).map (·.type)=some 192:=by kernel_rfl
theorem lines_of {W:World} (h:Lib.VarReads Tryz.prog W "analemma/word.lines" Rows.laid_analemma_word_lines):LineWs W:=by
 obtain ⟨g,t,cs,fuel,p,hg,ht,hv,hd⟩:=h;obtain rfl:=Option.some.inj (gLines.symm.trans hg);obtain rfl:=Option.some.inj (tLines.symm.trans ht);intro i l hl;have hd':DataW.trod (fun _=>()) Tryz.prog W 0 (fun _=>true) false fuel 192 cs.toList=some (.agg (lineL.map fun l=>.lit (.string l)),p):=hd;obtain ⟨m,q,h1⟩:=array_at Tryz.underlying192 hd' (i:=i) (d:=.lit (.string l)) (by rw [List.getElem?_map,hl];rfl);rw [cString,Nat.mul_one] at h1;have h2:=one_at (string_of Tryz.underlying9 h1);rw [World.var?_cell hg hv i,←Array.getElem?_toList];exact h2
theorem gKinds:Tryz.prog.globalNamed "analemma/dayform.kinds" = some 2:=by kernel_rfl
theorem tKinds:(Tryz.prog.globals[2]?).map (·.type)=some 174:=by kernel_rfl
theorem cBool:Tryz.prog.cellsOf 4=1:=by kernel_rfl
theorem cKind:Tryz.prog.cellsOf 173=3:=by kernel_rfl
theorem cFunc:Tryz.prog.cellsOf 171=1:=by kernel_rfl
theorem one_of {l:List Value} {i:Nat} (h:i<l.length):(l.drop i).take 1=[l[i]]:=by
 rw [List.drop_eq_getElem_cons h];rfl
theorem fun1:((List.range Tryz.prog.funcs.size).filter fun f=>(Tryz.prog.funcs[f]?).any (·.name.toUTF8.data.toList==[97,110,97,108,101,109,109,97,47,100,97,121,102,111,114,109,46,107,105,110,100,115,36,49]))=[271]:=by kernel_rfl
theorem fun2:((List.range Tryz.prog.funcs.size).filter fun f=>(Tryz.prog.funcs[f]?).any (·.name.toUTF8.data.toList==[97,110,97,108,101,109,109,97,47,100,97,121,102,111,114,109,46,107,105,110,100,115,36,50]))=[272]:=by kernel_rfl
theorem fun3:((List.range Tryz.prog.funcs.size).filter fun f=>(Tryz.prog.funcs[f]?).any (·.name.toUTF8.data.toList==[97,110,97,108,101,109,109,97,47,100,97,121,102,111,114,109,46,107,105,110,100,115,36,51]))=[274]:=by kernel_rfl
theorem fun4:((List.range Tryz.prog.funcs.size).filter fun f=>(Tryz.prog.funcs[f]?).any (·.name.toUTF8.data.toList==[97,110,97,108,101,109,109,97,47,100,97,121,102,111,114,109,46,107,105,110,100,115,36,52]))=[276]:=by kernel_rfl
theorem kind_of {W:World} {fuel:Nat} {cs:List Value} {ds:List (DataW (List UInt8))} {p:List MemPlace} (hlen:cs.length=15) (hd:DataW.trod (funcToken Tryz.prog) Tryz.prog W 0 (fun _=>true) true fuel 174 cs=some (.agg ds,p))
 {i:Nat} {a b:Bool} {c:UInt8} {r:List UInt8} {f0:FuncId} (hi:ds[i]? = some (.agg [.lit (.bool a),.lit (.bool b),.held (c::r)])) (h5:i<5)
 (hone:((List.range Tryz.prog.funcs.size).filter fun f=>(Tryz.prog.funcs[f]?).any (·.name.toUTF8.data.toList==c::r))=[f0]) :
 cs[i*3]? = some (.bool a)∧cs[i*3+1]? = some (.bool b)∧cs[i*3+2]? = some (.func (.func f0) #[] #[]):=by
 obtain ⟨m,q,h1⟩:=array_at Tryz.underlying174 hd hi;rw [cKind] at h1;obtain ⟨m0,q0,k0⟩:=struct_at Tryz.underlying173 h1 (i:=0) rfl rfl;obtain ⟨m1,q1,k1⟩:=struct_at Tryz.underlying173 h1 (i:=1) rfl rfl;obtain ⟨m2,q2,k2⟩:=struct_at Tryz.underlying173 h1 (i:=2) rfl rfl;have k0:DataW.trod (funcToken Tryz.prog) Tryz.prog W 0 (fun _=>true) true m0 4 ((((cs.drop (i*3)).take 3).drop 0).take (Tryz.prog.cellsOf 4))=some (.lit (.bool a),q0):=k0;have k1:DataW.trod (funcToken Tryz.prog) Tryz.prog W 0 (fun _=>true) true m1 4 ((((cs.drop (i*3)).take 3).drop 1).take (Tryz.prog.cellsOf 4))=some (.lit (.bool b),q1):=k1;have k2:DataW.trod (funcToken Tryz.prog) Tryz.prog W 0 (fun _=>true) true m2 171 ((((cs.drop (i*3)).take 3).drop 2).take (Tryz.prog.cellsOf 171))=some (.held (c::r),q2):=k2;rw [cBool] at k0 k1;rw [cFunc] at k2;have e0:=in_at (one_at (bool_of Tryz.underlying4 k0));have e1:=in_at (one_at (bool_of Tryz.underlying4 k1));rw [one_of (by simp;omega)] at k2;have e2:=func_of_trod Tryz.underlying171 hone k2;refine ⟨by simpa using e0,e1,?_⟩;have h3:((cs.drop (i*3)).take 3)[2]? = some (.func (.func f0) #[] #[]):=by rw [←e2];exact List.getElem?_eq_getElem _
 exact in_at h3
def kindD:DataW Unit:=.agg [.agg [.lit (.bool false),.lit (.bool false),.nil],.agg [.lit (.bool false),.lit (.bool true),.iface "func" (.lit (.string [97,110,97,108,101,109,109,97,47,100,97,121,102,111,114,109,46,107,105,110,100,115,36,49]))],.agg [.lit (.bool true),.lit (.bool false),.iface "func" (.lit (.string [97,110,97,108,101,109,109,97,47,100,97,121,102,111,114,109,46,107,105,110,100,115,36,50]))],.agg [.lit (.bool true),.lit (.bool true),.iface "func" (.lit (.string [97,110,97,108,101,109,109,97,47,100,97,121,102,111,114,109,46,107,105,110,100,115,36,51]))],.agg [.lit (.bool true),.lit (.bool true),.iface "func" (.lit (.string [97,110,97,108,101,109,109,97,47,100,97,121,102,111,114,109,46,107,105,110,100,115,36,52]))]]
theorem kinds_of {W:World} (h:funcsAt Tryz.prog W "analemma/dayform.kinds" kindD):Kinds W:=by
 obtain ⟨g,t,cs,fuel,p,hg,ht,hv,hd⟩:=h;obtain rfl:=Option.some.inj (gKinds.symm.trans hg);obtain rfl:=Option.some.inj (tKinds.symm.trans ht)
 have hlen:cs.toList.length=15:=by
  obtain ⟨_,_,_,_,hl,_⟩:=DataW.trod_array Tryz.underlying174 hd;exact hl.trans (by kernel_rfl)
 have hd':DataW.trod (funcToken Tryz.prog) Tryz.prog W 0 (fun _=>true) true fuel 174 cs.toList=some (.agg [.agg [.lit (.bool false),.lit (.bool false),.nil],.agg [.lit (.bool false),.lit (.bool true),.held [97,110,97,108,101,109,109,97,47,100,97,121,102,111,114,109,46,107,105,110,100,115,36,49]],.agg [.lit (.bool true),.lit (.bool false),.held [97,110,97,108,101,109,109,97,47,100,97,121,102,111,114,109,46,107,105,110,100,115,36,50]],.agg [.lit (.bool true),.lit (.bool true),.held [97,110,97,108,101,109,109,97,47,100,97,121,102,111,114,109,46,107,105,110,100,115,36,51]],.agg [.lit (.bool true),.lit (.bool true),.held [97,110,97,108,101,109,109,97,47,100,97,121,102,111,114,109,46,107,105,110,100,115,36,52]]],p):=hd;obtain ⟨a1,b1,f1⟩:=kind_of hlen hd' (i:=1) rfl (by decide) fun1;obtain ⟨a2,b2,f2⟩:=kind_of hlen hd' (i:=2) rfl (by decide) fun2;obtain ⟨a3,b3,f3⟩:=kind_of hlen hd' (i:=3) rfl (by decide) fun3;obtain ⟨a4,b4,f4⟩:=kind_of hlen hd' (i:=4) rfl (by decide) fun4
 have k:∀ {i:Nat} {v:Value},cs.toList[i]? = some v→W.cell? ⟨2,i,none⟩=some v:=fun hc=>by
  rw [World.var?_cell hg hv,←Array.getElem?_toList];exact hc
 exact ⟨k a1,k b1,k a2,k b2,k a3,k b3,k a4,k b4,k f1,k f2,k f3,k f4⟩
theorem gErrTy:Tryz.prog.globalNamed "errors.errorType" = some 1:=by kernel_rfl
theorem rtypeRow:(Tryz.prog.cutTypes.find? (·.1 == "internal/reflectlite.rtype")).map (·.2)=some 199:=by kernel_rfl
theorem errorRow:((List.range Tryz.prog.types.size).filter fun t=>Tryz.prog.rowNamed t [101,114,114,111,114])=[74]:=by kernel_rfl
theorem errt_of {W:World} (h:handlesMet Tryz.prog [("errors.errorType",Rows.laid_errors_errorType),("analemma/dayform.kinds",Rows.laid_analemma_dayform_kinds)] W):ErrTy W:=by
 obtain ⟨name,u,ty,e1,e2,hlt,hrow,hv⟩:=h ("errors.errorType",Rows.laid_errors_errorType) (List.mem_cons_self ..);obtain rfl:[101,114,114,111,114]=name:=Option.some.inj e1;obtain rfl:=Option.some.inj (rtypeRow.symm.trans e2);have hm:ty ∈ ((List.range Tryz.prog.types.size).filter fun t=>Tryz.prog.rowNamed t [101,114,114,111,114]):=List.mem_filter.2 ⟨List.mem_range.2 hlt,hrow⟩;rw [errorRow] at hm;obtain rfl:=List.mem_singleton.1 hm;unfold ErrTy;rw [World.var?_cell gErrTy hv 0]
 rfl
theorem stabs_of {W:World} (h:laidMetH Tryz.prog Rows.sourceFirstRow.laid W):STabs W :=
 have k:=kinds_of (h.funcs (List.mem_of_getElem? (i:=7) rfl));have f:=(⟨ascii_of (reads_plain h (List.mem_of_getElem? (i:=9) rfl) rfl),orbit_of (reads_plain h (List.mem_of_getElem? (i:=10) rfl) rfl)⟩:Folds W);have w:=weeks_of (reads_plain h (List.mem_of_getElem? (i:=13) rfl) rfl);have m:=months_of (reads_plain h (List.mem_of_getElem? (i:=12) rfl) rfl);have u:=units_of (reads_plain h (List.mem_of_getElem? (i:=8) rfl) rfl);have p:=pows_of (reads_plain h (List.mem_of_getElem? (i:=2) rfl) rfl);have e1:=esyn_of (reads_plain h (List.mem_of_getElem? (i:=6) rfl) rfl);have e2:=eran_of (reads_plain h (List.mem_of_getElem? (i:=5) rfl) rfl)
 ⟨⟨k,w,f,m,u,p,e1,e2⟩,⟨k,w,f,m,tos_of (reads_plain h (List.mem_of_getElem? (i:=14) rfl) rfl),u,p,e1,e2⟩,lines_of (reads_plain h (List.mem_of_getElem? (i:=11) rfl) rfl)⟩
theorem maxL_of {W:World} (h:W.ShapedOpen Tryz.prog):MaxL W:=Tryz.laysM146.s1_3 W h
theorem sw_of {W:World} (h:laidMetH Tryz.prog Rows.sourceFirstRow.laid W) (hs:W.ShapedOpen Tryz.prog):SW W:=⟨stabs_of h,maxL_of hs,errt_of h.2⟩
end Go.Proofs.YtboagmbmmoomiaaGreatDoor
