/-
  SourceLines holds.
-/
import Derived.Test.YtkniciefhodjlaaGreatDoorTreeMade
import Derived.Test.YtkniciefhodjlaaGreatDoorTreeLines
import Derived.Test.YtkniciefhodjlaaGreatDoorSrcWork
set_option linter.unusedVariables false
set_option linter.unusedSimpArgs false
set_option maxRecDepth 100000
set_option maxHeartbeats 4000000
namespace Go.Proofs.YtkniciefhodjlaaGreatDoor
open Go.Lib (hid)
open Go.RowKit Go.Shelf
theorem tjoin_any {B:Nat} {out:List (List UInt8)} {vo:Value} {W:World} (ho:StrO B out vo W) (hn:out.length≤1000) (hl:(joinB [10] out).length≤1048576):Calls Tryz.prog 6 #[vo,.string ⟨#[10]⟩] W fun e w'=>e=.returned (.string ⟨(joinB [10] out).toArray⟩)∧Below W.heap.size W w':=by
 rcases ho.2 with ⟨rfl,h0⟩|⟨g,cap,cur,rfl,hB,hh,hnc,hcm,hcs,htk⟩
 ·have:out=[]:=List.eq_nil_of_length_eq_zero h0
  subst this;exact (Any.strings_Join_none Tryz.lays156 Tryz.Builder_Extra_156 none 0 ⟨#[10]⟩ W).mono fun e w' ⟨he,hw⟩=>⟨he,hw ▸ Below.refl _ _⟩
 ·have hrow:=rows_of_own (enc:=encS) (by decide) (fun x=>rfl) ho
  have em:((out.map fun l=>(⟨l.toArray⟩:ByteArray)).map (·.data.toList))=out:=by rw [List.map_map];simp [Function.comp_def]
  have h:=Any.strings_Join Tryz.lays156 Tryz.Builder_Extra_156 g 0 cap (out.map fun l=>⟨l.toArray⟩) ⟨#[10]⟩ W (fun j x hx=>by
   rw [List.getElem?_map] at hx
   cases hj:out[j]? with
   | none=>rw [hj] at hx;cases hx
   | some l =>
    rw [hj] at hx
    cases hx
    obtain ⟨b,o,c,e,hb,hc⟩:=hrow.at_ (by intro h0;rw [h0] at hj;simp at hj);simp only [Value.slice.injEq,Option.some.injEq,Addr.mk.injEq,and_true,true_and] at e;obtain ⟨⟨rfl,rfl⟩,-⟩:=e;have:=hc j l hj 0 _ rfl
    simpa using this) (show Blk W g _ cur from hh).lt (by simp;omega) (by simpa using hnc) (by rw [em];rw [joinB_eq] at hl;exact Nat.le_trans hl (by decide))
  rw [em,List.length_map,show (⟨#[10]⟩:ByteArray).data.toList=[10] from rfl,←joinB_eq] at h;exact h
theorem hp_rule {W:World} (hW:SW W) {x:RuleP} (h:ruleOk x=true):Calls Tryz.prog 17 #[.agg x.cells] W fun e w'=>e=.returned (.tuple #[.string ⟨(ruleT x).toArray⟩,.int .i64 0])∧Below W.heap.size W w':=by
 have hr:=(ruleOk_iff x).1 h;have e:rulePrintR x=(ruleT x,0):=if_pos h
 have h2:=rulePrint_any x W hW.tabs.rule (Nat.le_trans (setBk_len hr.name) (by decide)) (by
  rcases hr.lett with e|e
  ·rw [e];decide
  ·have:=(ofB_len e).2;omega)
 rw [e] at h2;exact h2
theorem hp_era {W:World} (hW:SW W) {x:EraP} (h:eraOk x=true):Calls Tryz.prog 18 #[.agg x.cells] W fun e w'=>e=.returned (.tuple #[.string ⟨(eraT x).toArray⟩,.int .i64 0])∧Below W.heap.size W w' :=
 eprint_ok x.cells _ W (infoE x) (hid fun W' hW'=>line_yes x W' (hW.tabs.era.below hW') ((eraOk_iff x).1 h))
theorem hp_link {W:World} {x:LinkP} (h:linkOk x=true):Calls Tryz.prog 19 #[.agg x.cells] W fun e w'=>e=.returned (.tuple #[.string ⟨(linkT x).toArray⟩,.int .i64 0])∧Below W.heap.size W w':=by
 have e:linkPrintR x=(linkT x,0):=if_pos h;have h':=h;unfold linkOk at h';rw [Bool.and_eq_true] at h';have h2:=linkPrint_any x W (Nat.le_trans (zoneBk_len h'.1) (by decide)) (Nat.le_trans (zoneBk_len h'.2) (by decide));rw [e] at h2;exact h2
theorem hp_shift {W:World} {x:List UInt8} (h:setB x=true):Calls Tryz.prog 20 #[.string ⟨x.toArray⟩] W fun e w'=>e=.returned (.tuple #[.string ⟨(shiftT x).toArray⟩,.int .i64 0])∧Below W.heap.size W w':=by
 have e:shiftPrintR x=(shiftT x,0):=if_pos h;have h2:=shiftPrint_any x W (Nat.le_trans (setBk_len h) (by decide));rw [e] at h2;exact h2
theorem tree_text {g:Nat} {out:List (List UInt8)} {s:SourceP} (h:OutIs g out (srcFs s)) (hr:SrcRight s) (hf:SrcFew s) (hl:out.length≤160):(joinB [10] out).length≤60000∧srcR (joinB [10] out)=((s,srcNs (g+1) s),0,0)∧srcR (joinB [10] out++[10])=((s,srcNs (g+1) s),0,0):=by
 have h1:(joinB [10] out).length≤60000:=by
  rw [joinB_eq];refine Nat.le_trans (join_le [10] 300 out fun x hx=>((h.are.all).1 x hx).2.1) ?_;exact Nat.le_trans (Nat.mul_le_mul hl (Nat.le_refl _)) (by decide)
 obtain ⟨h2,h3⟩:=srcR_join h.are (by omega) (readF_src g hr hf) rfl;exact ⟨h1,h2,h3⟩
theorem srcFs_few {s:SourceP} (h1:s.rules.length≤4) (h2:s.zones.length≤3) (h3:∀z ∈ s.zones,z.eras.length≤3) (h4:s.links.length≤3) (h5:s.shifts.length≤2):(srcFs s).length≤40:=by
 have:=zones_few h3 h2;simp only [srcFs,List.length_append,List.length_map]
 omega
theorem nums_le (k j:Nat) (n:Int) (m:Nat) (h:j≤m):(nums n k j).length≤m:=by rw [nums_len];exact h
theorem numss_each (k:Nat):∀(l:List Nat) (n:Int) (m:Nat),(∀x ∈ l,x≤m)→∀q ∈ numss n k l,q.length≤m
 | [],_,_,_,q,hq=>by cases hq
 | j::l,n,m,h,q,hq=>by
  rcases List.mem_cons.1 hq with rfl|hq
  ·exact nums_le k j n m (h j (List.mem_cons_self ..))
  ·exact numss_each k l _ m (fun x hx=>h x (List.mem_cons_of_mem _ hx)) q hq
theorem tree_ln {k:Nat} {s:SourceP} (h1:s.rules.length≤4) (h2:s.zones.length≤3) (h3:∀z ∈ s.zones,z.eras.length≤3) (h4:s.links.length≤3) (h5:s.shifts.length≤2):SrcLn s∧LnLn (srcNs k s):=by
 refine ⟨⟨by omega,by omega,by omega,by omega,fun z hz=>by have:=h3 z hz;omega⟩,⟨?_,?_,?_,?_,?_⟩⟩
 ·show (nums _ _ _).length≤_;rw [nums_len];omega
 ·show (numss _ _ _).length≤_;rw [numss_len,List.length_map];omega
 ·show (nums _ _ _).length≤_;rw [nums_len];omega
 ·show (nums _ _ _).length≤_;rw [nums_len];omega
 ·exact fun x hx=>Nat.le_trans (numss_each _ _ _ 3 (fun y hy=>by obtain ⟨z,hz,rfl⟩:=List.mem_map.1 hy;exact h3 z hz) x hx) (by decide)
theorem sourceLines_any (r z l s gp:Nat) (v:Value) (bs:List Nat) (w:World) (hr:RowsAt w w.heap.size 1 encY8 v bs) (hbs:∀x ∈ bs,x<256) (hr8:r<256) (hz8:z<256) (hl8:l<256) (hs8:s<256) (hg8:gp<256) (hW:SW w) :
 Calls Tryz.prog 3 #[.agg (treeC r z l s v),.int .u8 (gp:Int)] w fun e w'=>e=.returned (.bool true)∧Below w.heap.size w w':=by
 have HW:=hid hW;obtain ⟨g,hg⟩:∃g,gp % 4=g:=⟨_,rfl⟩;have hg2:(gp:Int) % 4=(g:Int):=by omega
 have hg3:g≤3:=by omega
 have HB0:=hid (show Below w.heap.size w (w.alloc (.cells (treeC r z l s v) 24)) from (Below.refl _ _).alloc (Nat.le_refl _) _);have HM:=hid (tmade_any r z l s v bs (w.alloc (.cells (treeC r z l s v) 24)) ((hr.below HB0.out).mono HB0.out.size) hbs hr8 hz8 hl8 hs8);clear hr hbs hr8 hz8 hl8 hs8 hg8 hW hg
 go_enter Tryz.func3,Tryz.ntmps3
 go_upto_region 1 with fail
 have HK0:Blk (w.alloc (.cells (treeC r z l s v) 24)) w.heap.size 24 (treeC r z l s v):=Blk.new' _ _ _ rfl;have k0:(w.alloc (.cells (treeC r z l s v) 24)).cell? ⟨w.heap.size,0,none⟩=some (.int .u8 (r:Int)):=HK0.cell_ (i:=0) rfl;have k1:(w.alloc (.cells (treeC r z l s v) 24)).cell? ⟨w.heap.size,1,none⟩=some (.int .u8 (z:Int)):=HK0.cell_ (i:=1) rfl;have k2:(w.alloc (.cells (treeC r z l s v) 24)).cell? ⟨w.heap.size,2,none⟩=some (.int .u8 (l:Int)):=HK0.cell_ (i:=2) rfl;have k3:(w.alloc (.cells (treeC r z l s v) 24)).cell? ⟨w.heap.size,3,none⟩=some (.int .u8 (s:Int)):=HK0.cell_ (i:=3) rfl;have k4:(w.alloc (.cells (treeC r z l s v) 24)).cell? ⟨w.heap.size,4,none⟩=some (v):=HK0.cell_ (i:=4) rfl;generalize (w.alloc (.cells (treeC r z l s v) 24))=w1 at *;go_wp2_with fail
 refine HM.out.mono ?_;rintro e w2 ⟨⟨sr,v1,zv,v3,v4,cur,rfl,hcur,hright,m1,m2,m3,m4,m5,hsrc⟩,hb2⟩;obtain ⟨x1,y1,x2,y2,x3,y3,x4,y4,rfl,rfl,rfl,rfl⟩:=src_form hsrc;have HB2:=hid (HB0.out.trans (hb2.mono HB0.out.size));have HS2:=hid hsrc;have HR:=hid hright;have HFW:=hid (show SrcFew sr from ⟨by omega,by omega,by omega,by omega,fun z hz=>by have:=m3 z hz;omega⟩);have HLN:=hid (tree_ln (k:=g+1) m1 m2 m3 m4 m5);have HFF:=hid (srcFs_few m1 m2 m3 m4 m5);have HM3:=hid m3;clear hb2 hsrc hright hcur m3 HB0 HM HK0 k0 k1 k2 k3 k4
 go_upto_region 2 with fail
 have HB3:=hid (show Below w.heap.size w (w2.alloc (.cells #[.slice x1 sr.rules.length y1,.slice x2 sr.zones.length y2,.slice x3 sr.links.length y3,.slice x4 sr.shifts.length y4] 30)) from HB2.out.trans (((Below.refl _ _).alloc (Nat.le_refl _) _).mono HB2.out.size));have HK3:=hid (show Blk (w2.alloc (.cells #[.slice x1 sr.rules.length y1,.slice x2 sr.zones.length y2,.slice x3 sr.links.length y3,.slice x4 sr.shifts.length y4] 30)) w2.heap.size 30 #[.slice x1 sr.rules.length y1,.slice x2 sr.zones.length y2,.slice x3 sr.links.length y3,.slice x4 sr.shifts.length y4] from Blk.new' _ _ _ rfl);have HS3:=hid (show SrcIs (w2.alloc (.cells #[.slice x1 sr.rules.length y1,.slice x2 sr.zones.length y2,.slice x3 sr.links.length y3,.slice x4 sr.shifts.length y4] 30)) (w2.alloc (.cells #[.slice x1 sr.rules.length y1,.slice x2 sr.zones.length y2,.slice x3 sr.links.length y3,.slice x4 sr.shifts.length y4] 30)).heap.size (.slice x1 sr.rules.length y1) (.slice x2 sr.zones.length y2) (.slice x3 sr.links.length y3) (.slice x4 sr.shifts.length y4) (cur.map (·.1)) sr from (HS2.out.below ((Below.refl _ _).alloc (Nat.le_refl _) _)).mono (by simp));clear HS2 HB2;generalize w2.alloc (.cells #[.slice x1 sr.rules.length y1,.slice x2 sr.zones.length y2,.slice x3 sr.links.length y3,.slice x4 sr.shifts.length y4] 30)=w3 at *;generalize w2.heap.size=g5 at *;have s0:=HK3.out.cell_ (i:=0) rfl;have s1:=HK3.out.cell_ (i:=1) rfl;have s2:=HK3.out.cell_ (i:=2) rfl;have s3:=HK3.out.cell_ (i:=3) rfl;have HL:=hid (tlines_any (.slice x1 sr.rules.length y1) (.slice x2 sr.zones.length y2) (.slice x3 sr.links.length y3) (.slice x4 sr.shifts.length y4) (cur.map (·.1)) sr g w3 HS3.out HR.out m1 m2 HM3.out m4 m5 hg3 (fun x hx W hW=>hp_rule (HW.out.below (HB3.out.trans (hW.mono HB3.out.size))) (HR.out.rules x hx)) (fun z hz x hx W hW=>hp_era (HW.out.below (HB3.out.trans (hW.mono HB3.out.size))) ((zone_parts_ (HR.out.zones z hz)).2 x hx)) (fun x hx W hW=>hp_link (HR.out.links x hx)) (fun x hx W hW=>hp_shift (HR.out.shifts x hx)));clear m1 m2 m4 m5;go_wp2_with fail
 refine HL.out.mono ?_;rintro e w4 ⟨⟨out,vo,u1,u2,u3,u4,el,rfl,⟨B,hvo⟩,hln,hout⟩,hb4⟩;obtain ⟨t1,z1,t2,z2,t3,z3,t4,z4,rfl,rfl,rfl,rfl⟩:=ln_form hln;have hba:Below w4.heap.size w4 (w4.alloc (.cells #[.slice t1 (srcNs (g+1) sr).rules.length z1,.slice t2 (srcNs (g+1) sr).eras.length z2,.slice t3 (srcNs (g+1) sr).links.length z3,.slice t4 (srcNs (g+1) sr).shifts.length z4] 35)):=(Below.refl _ _).alloc (Nat.le_refl _) _;have hbc:=hb4.trans (hba.mono hb4.size);have HB4:=hid (HB3.out.trans (hbc.mono HB3.out.size));have HS4:=hid (show SrcIs (w4.alloc (.cells #[.slice t1 (srcNs (g+1) sr).rules.length z1,.slice t2 (srcNs (g+1) sr).eras.length z2,.slice t3 (srcNs (g+1) sr).links.length z3,.slice t4 (srcNs (g+1) sr).shifts.length z4] 35)) (w4.alloc (.cells #[.slice t1 (srcNs (g+1) sr).rules.length z1,.slice t2 (srcNs (g+1) sr).eras.length z2,.slice t3 (srcNs (g+1) sr).links.length z3,.slice t4 (srcNs (g+1) sr).shifts.length z4] 35)).heap.size (.slice x1 sr.rules.length y1) (.slice x2 sr.zones.length y2) (.slice x3 sr.links.length y3) (.slice x4 sr.shifts.length y4) (cur.map (·.1)) sr from (HS3.out.below hbc).mono hbc.size);have HK4:=hid (HK3.out.below hbc HK3.out.lt);have HN4:=hid (show LnIs (w4.alloc (.cells #[.slice t1 (srcNs (g+1) sr).rules.length z1,.slice t2 (srcNs (g+1) sr).eras.length z2,.slice t3 (srcNs (g+1) sr).links.length z3,.slice t4 (srcNs (g+1) sr).shifts.length z4] 35)) (w4.alloc (.cells #[.slice t1 (srcNs (g+1) sr).rules.length z1,.slice t2 (srcNs (g+1) sr).eras.length z2,.slice t3 (srcNs (g+1) sr).links.length z3,.slice t4 (srcNs (g+1) sr).shifts.length z4] 35)).heap.size (.slice t1 (srcNs (g+1) sr).rules.length z1) (.slice t2 (srcNs (g+1) sr).eras.length z2) (.slice t3 (srcNs (g+1) sr).links.length z3) (.slice t4 (srcNs (g+1) sr).shifts.length z4) el (srcNs (g+1) sr) from (hln.below hba).mono hba.size);have HA4:=hid (show Blk (w4.alloc (.cells #[.slice t1 (srcNs (g+1) sr).rules.length z1,.slice t2 (srcNs (g+1) sr).eras.length z2,.slice t3 (srcNs (g+1) sr).links.length z3,.slice t4 (srcNs (g+1) sr).shifts.length z4] 35)) w4.heap.size 35 #[.slice t1 (srcNs (g+1) sr).rules.length z1,.slice t2 (srcNs (g+1) sr).eras.length z2,.slice t3 (srcNs (g+1) sr).links.length z3,.slice t4 (srcNs (g+1) sr).shifts.length z4] from Blk.new' _ _ _ rfl);have hol:=out_le hout hg3 HFF.out;obtain ⟨hjl,hr1,hr2⟩:=tree_text hout HR.out HFW.out hol;have HJ:=hid (show ∀W,Below (w4.alloc (.cells #[.slice t1 (srcNs (g+1) sr).rules.length z1,.slice t2 (srcNs (g+1) sr).eras.length z2,.slice t3 (srcNs (g+1) sr).links.length z3,.slice t4 (srcNs (g+1) sr).shifts.length z4] 35)).heap.size (w4.alloc (.cells #[.slice t1 (srcNs (g+1) sr).rules.length z1,.slice t2 (srcNs (g+1) sr).eras.length z2,.slice t3 (srcNs (g+1) sr).links.length z3,.slice t4 (srcNs (g+1) sr).shifts.length z4] 35)) W→Calls Tryz.prog 6 #[vo,.string ⟨#[10]⟩] W fun e w'=>e=.returned (.string ⟨(joinB [10] out).toArray⟩)∧Below W.heap.size W w' from fun W hW=>tjoin_any (OwnR.kept_ (OwnR.kept_ hvo hba) hW) (by omega) (by omega));obtain ⟨tj,ht1⟩:∃tj,joinB [10] out=tj:=⟨_,rfl⟩;rw [ht1] at hjl hr1 hr2 HJ;obtain ⟨jb,hjb⟩:∃jb:ByteArray,(⟨tj.toArray⟩:ByteArray)=jb:=⟨_,rfl⟩;have hjs:jb.size≤60000:=by rw [←hjb];simpa [ByteArray.size] using hjl
 have HQ1:=hid (show srcR jb.data.toList=((sr,srcNs (g+1) sr),0,0) from by rw [←hjb];simpa using hr1);have HQ2:=hid (show srcR (jb++⟨#[10]⟩:ByteArray).data.toList=((sr,srcNs (g+1) sr),0,0) from by rw [←hjb];simpa [ByteArray.data_append] using hr2);rw [hjb] at HJ;obtain ⟨qv,cv,rfl⟩:=own_form hvo;clear hb4 hln hout hvo hol hjl hr1 hr2 ht1 hjb HB3 HS3 HK3 HL s0 s1 s2 s3 hba hbc HM3
 go_upto_region 5 with fail
 generalize (w4.alloc (.cells #[.slice t1 (srcNs (g+1) sr).rules.length z1,.slice t2 (srcNs (g+1) sr).eras.length z2,.slice t3 (srcNs (g+1) sr).links.length z3,.slice t4 (srcNs (g+1) sr).shifts.length z4] 35))=wa at *;generalize w4.heap.size=g7 at *;go_wp2_with fail
 refine (HJ.out _ (Below.refl _ _)).mono ?_;rintro e5 w5 ⟨rfl,hb5⟩;have HJ2:=hid (HJ.out _ hb5);go_wp2_with fail
 refine HJ2.out.mono ?_;rintro e6 w6 ⟨rfl,hb6⟩;have hbd:Below w6.heap.size w6 (w6.alloc (.cells #[.string jb,.string (jb++⟨#[10]⟩)] 9)):=(Below.refl _ _).alloc (Nat.le_refl _) _;have hb7:=(hb5.trans (hb6.mono hb5.size)).trans (hbd.mono (hb5.trans (hb6.mono hb5.size)).size);have HB7:=hid (HB4.out.trans (hb7.mono HB4.out.size));have HS7:=hid (HS4.out.now hb7);have HK7:=hid (HK4.out.below hb7 HK4.out.lt);have HN7:=hid (HN4.out.now hb7);have HA7:=hid (HA4.out.below hb7 HA4.out.lt);have HT7:=hid (show Blk (w6.alloc (.cells #[.string jb,.string (jb++⟨#[10]⟩)] 9)) w6.heap.size 9 #[.string jb,.string (jb++⟨#[10]⟩)] from Blk.new' _ _ _ rfl);clear hb5 hb6 hbd hb7 HJ HJ2 HB4 HS4 HK4 HN4 HA4
 go_upto_region 6 with fail
 generalize (w6.alloc (.cells #[.string jb,.string (jb++⟨#[10]⟩)] 9))=wt at *;generalize w6.heap.size=A at *;have HSRC:=HQ1
 go_loopw [34] (fun iv wr=>∃k:Nat,k≤2∧iv=.int .i64 (k:Int)∧Hid (Below wt.heap.size wt wr)) (fun iv _=>2-(intOf iv).toNat)
 case atStart=>exact ⟨0,by omega,rfl,hid (Below.refl _ _)⟩
 case round =>
  obtain ⟨k,hk,rfl,HB⟩:=hrel
  by_cases hlt:k<2
  ·have hd:decide ((k:Int)<2)=true:=by simp;omega
   obtain ⟨tk,HC,hkq,hks⟩:∃tk:ByteArray,Hid (wr.cell? ⟨A,k,none⟩=some (.string tk))∧srcR tk.data.toList=((sr,srcNs (g+1) sr),0,0)∧tk.size≤60001:=by
    have hb:=HT7.out.below HB.out HT7.out.lt
    match k,hlt with
    | 0,_=>exact ⟨jb,hid (hb.cell_ (i:=0) rfl),HQ1.out,by omega⟩
    | 1,_=>exact ⟨_,hid (hb.cell_ (i:=1) rfl),HQ2.out,by rw [ByteArray.size_append];have:(⟨#[10]⟩:ByteArray).size=1:=rfl;omega⟩
   have hc:=HC.out;have HPk:=hid (parse_ok tk wr (HW.out.below (HB7.out.trans (HB.out.mono HB7.out.size))) (by omega) hkq);clear hkq HC;go_wp2_with fail
   refine HPk.out.mono ?_;rintro e2 w2 ⟨⟨B1,st1,cur1,el1,⟨p1,p2,p3,p4,q1,q2,q3,q4⟩,rfl,hr1,hst,hln⟩,hb2⟩;have hs1:=hr1.src;have hl1:=hr1.ln;rw [hst] at hs1;rw [hln] at hl1;clear hr1 hst hln HPk hc;simp only at hs1 hl1 ⊢;obtain ⟨a1,b1,a2,b2,a3,b3,a4,b4,rfl,rfl,rfl,rfl⟩:=src_form hs1;obtain ⟨c1_,d1_,c2_,d2_,c3_,d3_,c4_,d4_,rfl,rfl,rfl,rfl⟩:=ln_form hl1;have hba:Below w2.heap.size w2 ((w2.alloc (.cells #[.slice a1 sr.rules.length b1,.slice a2 sr.zones.length b2,.slice a3 sr.links.length b3,.slice a4 sr.shifts.length b4] 30)).alloc (.cells #[.slice c1_ (srcNs (g+1) sr).rules.length d1_,.slice c2_ (srcNs (g+1) sr).eras.length d2_,.slice c3_ (srcNs (g+1) sr).links.length d3_,.slice c4_ (srcNs (g+1) sr).shifts.length d4_] 35)):=((Below.refl _ _).alloc (Nat.le_refl _) _).alloc (by simp) _;have hbc:=hb2.trans (hba.mono hb2.size);have HX:=hid (HB.out.trans (hbc.mono HB.out.size));have HGS:=hid (show Blk ((w2.alloc (.cells #[.slice a1 sr.rules.length b1,.slice a2 sr.zones.length b2,.slice a3 sr.links.length b3,.slice a4 sr.shifts.length b4] 30)).alloc (.cells #[.slice c1_ (srcNs (g+1) sr).rules.length d1_,.slice c2_ (srcNs (g+1) sr).eras.length d2_,.slice c3_ (srcNs (g+1) sr).links.length d3_,.slice c4_ (srcNs (g+1) sr).shifts.length d4_] 35)) w2.heap.size 30 #[.slice a1 sr.rules.length b1,.slice a2 sr.zones.length b2,.slice a3 sr.links.length b3,.slice a4 sr.shifts.length b4] from (Blk.new' _ _ _ rfl).alloc _);have HGL:=hid (show Blk ((w2.alloc (.cells #[.slice a1 sr.rules.length b1,.slice a2 sr.zones.length b2,.slice a3 sr.links.length b3,.slice a4 sr.shifts.length b4] 30)).alloc (.cells #[.slice c1_ (srcNs (g+1) sr).rules.length d1_,.slice c2_ (srcNs (g+1) sr).eras.length d2_,.slice c3_ (srcNs (g+1) sr).links.length d3_,.slice c4_ (srcNs (g+1) sr).shifts.length d4_] 35)) (w2.heap.size+1) 35 #[.slice c1_ (srcNs (g+1) sr).rules.length d1_,.slice c2_ (srcNs (g+1) sr).eras.length d2_,.slice c3_ (srcNs (g+1) sr).links.length d3_,.slice c4_ (srcNs (g+1) sr).shifts.length d4_] from Blk.new' _ _ _ (by simp));have HL:=hid (hl1.now hba);have HK:=hid (HK7.out.below HX.out HK7.out.lt);have HA:=hid (HA7.out.below HX.out HA7.out.lt);have HN:=hid (HN7.out.now HX.out);have HSS:=hid (sameSrc_any _ _ _ _ _ _ _ _ _ _ _ _ ((w2.alloc (.cells #[.slice a1 sr.rules.length b1,.slice a2 sr.zones.length b2,.slice a3 sr.links.length b3,.slice a4 sr.shifts.length b4] 30)).alloc (.cells #[.slice c1_ (srcNs (g+1) sr).rules.length d1_,.slice c2_ (srcNs (g+1) sr).eras.length d2_,.slice c3_ (srcNs (g+1) sr).links.length d3_,.slice c4_ (srcNs (g+1) sr).shifts.length d4_] 35)) (hs1.now hba) (HS7.out.now HX.out) HLN.out.1 HLN.out.1);rw [decide_eq_true rfl] at HSS;clear hs1 hl1 hb2 hba hbc HB
   go_upto_region 9 with fail
   generalize ((w2.alloc (.cells #[.slice a1 sr.rules.length b1,.slice a2 sr.zones.length b2,.slice a3 sr.links.length b3,.slice a4 sr.shifts.length b4] 30)).alloc (.cells #[.slice c1_ (srcNs (g+1) sr).rules.length d1_,.slice c2_ (srcNs (g+1) sr).eras.length d2_,.slice c3_ (srcNs (g+1) sr).links.length d3_,.slice c4_ (srcNs (g+1) sr).shifts.length d4_] 35))=wp at *;generalize w2.heap.size=C at *;have c0:=HK.out.cell_ (i:=0) rfl;have c1:=HK.out.cell_ (i:=1) rfl;have c2:=HK.out.cell_ (i:=2) rfl;have c3:=HK.out.cell_ (i:=3) rfl;have d0:=HGS.out.cell_ (i:=0) rfl;have d1:=HGS.out.cell_ (i:=1) rfl;have d2:=HGS.out.cell_ (i:=2) rfl;have d3:=HGS.out.cell_ (i:=3) rfl;go_wp2_with fail
   refine HSS.out.mono ?_;rintro e3 w3 ⟨rfl,hb3⟩;have HSL:=hid (sameLn_any _ _ _ _ _ _ _ _ _ _ _ _ w3 (HL.out.now hb3) (HN.out.now hb3) HLN.out.2 HLN.out.2);rw [decide_eq_true rfl] at HSL;have HX3:=hid (HX.out.trans (hb3.mono HX.out.size));have HGL3:=hid (HGL.out.below hb3 HGL.out.lt);have HA3:=hid (HA.out.below hb3 HA.out.lt);clear hb3 c0 c1 c2 c3 d0 d1 d2 d3 HSS HK HGS HGL HL HN HA HX;have c0:=HGL3.out.cell_ (i:=0) rfl;have c1:=HGL3.out.cell_ (i:=1) rfl;have c2:=HGL3.out.cell_ (i:=2) rfl;have c3:=HGL3.out.cell_ (i:=3) rfl;have d0:=HA3.out.cell_ (i:=0) rfl;have d1:=HA3.out.cell_ (i:=1) rfl;have d2:=HA3.out.cell_ (i:=2) rfl;have d3:=HA3.out.cell_ (i:=3) rfl;go_wp2_with fail
   refine HSL.out.mono ?_;rintro e4 w4 ⟨rfl,hb4⟩;have HB4:=hid (HX3.out.trans (hb4.mono HX3.out.size));clear hb4 HSL HX3 HGL3 HA3 c0 c1 c2 c3 d0 d1 d2 d3;go_wp2_with fail
   go_roundw
   case rel=>exact ⟨k+1,by omega,by go_num,HB4⟩
   case measure=>simp [intOf];omega
  ·obtain rfl:k=2:=by omega
   have HBw:=hid (HB7.out.trans (HB.out.mono HB7.out.size));have HWk:=hid (works_any wr (HW.out.below HBw.out));clear HB hlt hk;go_wp2_with fail
   refine HWk.out.mono ?_;rintro e1 w1 ⟨rfl,hb1⟩;have HBf:=hid (HBw.out.trans (hb1.mono HBw.out.size));clear hb1 HWk;go_wp2_with fail
   go_ret
   exact ⟨rfl,HBf.out⟩
end Go.Proofs.YtkniciefhodjlaaGreatDoor
