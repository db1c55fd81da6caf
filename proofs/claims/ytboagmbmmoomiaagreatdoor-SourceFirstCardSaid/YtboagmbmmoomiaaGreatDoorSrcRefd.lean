/-
  Fault of analemmalaw13.
  SameSource and sameLines of analemmalaw13.
  refused of analemmalaw13.
-/
import Derived.Test.YtboagmbmmoomiaaGreatDoorSrcParse
set_option linter.unusedVariables false
set_option linter.unusedSimpArgs false
set_option maxRecDepth 100000
set_option maxHeartbeats 4000000
namespace Go.Proofs.YtboagmbmmoomiaaGreatDoor
open Go.Lib (hid)
open Go.RowKit Go.Shelf
theorem fault_at (v:Value) (n en:Int) (w:World) (hE:ErrTy w) (hf:FaultAt w v n en) (he:en≠0):Calls Tryz.prog 21 #[v] w fun e w'=>e=.returned (.tuple #[.agg #[.int .i64 0,.int .i64 n,.int .i64 en],.bool true])∧Below w.heap.size w w':=by
 obtain ⟨g,rfl,hg⟩:=hf;have hq:(en==0)=false:=by simp [he]
 have hq2:(en != 0)=true:=by simp [he]
 have hb0:Below w.heap.size w ((w.alloc (.cells #[.int .i64 0,.int .i64 0,.int .i64 0] 78)).alloc (.cells #[.pointer none] 108)):=((Below.refl _ _).alloc (Nat.le_refl _) _).alloc (by simp) _;have HR:=hid (And.intro (show Blk ((w.alloc (.cells #[.int .i64 0,.int .i64 0,.int .i64 0] 78)).alloc (.cells #[.pointer none] 108)) w.heap.size 78 #[.int .i64 0,.int .i64 0,.int .i64 0] from (Blk.new' _ _ _ rfl).alloc _) (And.intro (show Blk ((w.alloc (.cells #[.int .i64 0,.int .i64 0,.int .i64 0] 78)).alloc (.cells #[.pointer none] 108)) (w.heap.size+1) 108 #[.pointer none] from Blk.new' _ _ _ (by simp)) (And.intro (hg.below hb0 hg.lt) (And.intro (hg.lt) (And.intro (hb0) (hE.below hb0))))));clear hb0 hE hg
 go_enter Tryz.func21,Tryz.ntmps21
 go_upto_region 4 with fail
 generalize (w.alloc (.cells #[.int .i64 0,.int .i64 0,.int .i64 0] 78)).alloc (.cells #[.pointer none] 108)=w0 at *;have HA:=hid (asF ⟨g,0,none⟩ ⟨w.heap.size+1,0,none⟩ _ w0 HR.out.2.2.2.2.2 (HR.out.2.1.cell_ (i:=0) rfl) (HR.out.2.1.frozen 0));go_wp2_with fail
 refine HA.out.mono ?_;rintro e1 w1 ⟨rfl,hw⟩;have hb4:=((((Below.refl w0.heap.size w0).alloc (Nat.le_refl _) (.cells #[.pointer (some ⟨w.heap.size+1,0,none⟩)] 110)).alloc (by simp) (.cells #[.pointer (some ⟨18,110,none⟩),.pointer (some ⟨w0.heap.size,0,none⟩),.int .u64 150] 156)).alloc (by simp;omega) (.cells #[.pointer (some ⟨18,110,none⟩),.pointer (some ⟨w0.heap.size,0,none⟩),.int .u64 150] 156)).alloc (by simp;omega) (.cells #[(.pointer (some (⟨g,0,none⟩:Addr)))] 108);have p1:=(HR.out.2.1.below hb4 HR.out.2.1.lt).set_ 0 (.pointer (some ⟨g,0,none⟩));have p0:=(HR.out.1.below hb4 HR.out.1.lt).far (p:=⟨w.heap.size+1,0,none⟩) (by show w.heap.size≠w.heap.size+1;omega) (.pointer (some ⟨g,0,none⟩));have p2:=(HR.out.2.2.1.below hb4 HR.out.2.2.1.lt).far (p:=⟨w.heap.size+1,0,none⟩) (by show g≠w.heap.size+1;have:=HR.out.2.2.2.1;omega) (.pointer (some ⟨g,0,none⟩));have p3:=(HR.out.2.2.2.2.1.trans (hb4.mono HR.out.2.2.2.2.1.size)).setCell (p:=⟨w.heap.size+1,0,none⟩) (Nat.le_succ _) (.pointer (some ⟨g,0,none⟩));rw [hw] at p0 p1 p2 p3;have HS:=hid (And.intro p0 (And.intro p1 (And.intro p2 (And.intro p3 HR.out.2.2.2.1))));have HI:=hid (isF g en w1 (p2.cell_ (i:=2) rfl));have y0:=p1.cell_ (i:=0) rfl;have y2:=p2.cell_ (i:=2) rfl;clear hb4 hw p0 p1 p2 p3 HA HR;go_wp2_with fail
 refine HI.out.mono ?_;rintro e2 w2 ⟨rfl,rfl⟩;have x0:=HS.out.2.2.1.cell_ (i:=0) rfl;have x1:=HS.out.2.2.1.cell_ (i:=1) rfl;have q0:=HS.out.1.cell_ (i:=0) rfl;have q1:=HS.out.1.cell_ (i:=1) rfl;have q2:=HS.out.1.cell_ (i:=2) rfl;have f0:=HS.out.1.frozen 0;have f1:=HS.out.1.frozen 1;have f2:=HS.out.1.frozen 2;go_wp2_with fail
 refine bodyPost_ret (v:=.tuple #[.agg #[.int .i64 0,.int .i64 n,.int .i64 en],.bool true]) (by simp [results,Tryz.results21,go_sem,q0,q1,q2,f0,f1,f2]) rfl ⟨rfl,((HS.out.2.2.2.1.setCell (Nat.le_refl _) _).setCell (Nat.le_refl _) _).setCell (Nat.le_refl _) _⟩
theorem sameS1_any (z1 z2:ZoneP) (v1 v2:Value) (w:World) (h1:RowsAt w w.heap.size 13 EraP.cells v1 z1.eras) (h2:RowsAt w w.heap.size 13 EraP.cells v2 z2.eras) (hl1:z1.eras.length≤1048576) (hl2:z2.eras.length≤1048576) :
 Calls Tryz.prog 50 #[.agg (encZ (z1,v1)),.agg (encZ (z2,v2))] w fun e w'=>e=.returned (.bool (decide (z1=z2)))∧Below w.heap.size w w':=by
 obtain ⟨n1,e1⟩:=z1;obtain ⟨n2,e2⟩:=z2;simp only [encZ] at *;have hb0:Below w.heap.size w ((w.alloc (.cells #[.string ⟨n1.toArray⟩,v1] 58)).alloc (.cells #[.string ⟨n2.toArray⟩,v2] 58)):=((Below.refl _ _).alloc (Nat.le_refl _) _).alloc (by simp) _;have HE:=hid (equalEra_any e1 e2 v1 v2 _ ((h1.below hb0).mono (by simp;omega)) ((h2.below hb0).mono (by simp;omega)) hl1 hl2);have HB:=hid hb0;obtain ⟨p1,c1,rfl⟩:=h1.slice;obtain ⟨p2,c2,rfl⟩:=h2.slice
 have hR:∀r,decide (e1=e2)=r→n1=n2→decide ((⟨n1,e1⟩:ZoneP)=⟨n2,e2⟩)=r:=fun r hr hn=>by
  subst hr;subst hn;exact decide_eq_decide.2 ⟨fun h=>(ZoneP.mk.inj h).2,fun h=>by rw [h]⟩
 have HR:=hid hR;have hF:n1≠n2→decide ((⟨n1,e1⟩:ZoneP)=⟨n2,e2⟩)=false:=fun h=>decide_eq_false fun k=>h (ZoneP.mk.inj k).1
 have HF:=hid hF;clear h1 h2 hb0 hR hF
 by_cases hn:n1=n2
 ·obtain ⟨r,hr⟩:∃r,decide (e1=e2)=r:=⟨_,rfl⟩
  have HD:=hid (HR.out r hr hn);rw [hr] at HE;subst hn;clear HF HR hr;obtain ⟨s,hs⟩:∃s:ByteArray,(⟨n1.toArray⟩:ByteArray)=s:=⟨_,rfl⟩;rw [hs] at HE HB ⊢;clear hs
  cases r
  all_goals
   go_enter Tryz.func50,Tryz.ntmps50;go_wp2_with fail
   refine HE.out.mono ?_;rintro e w1 ⟨rfl,hb1⟩;have HB1:=hid (HB.out.trans (hb1.mono HB.out.size));clear hb1;go_wp2_with fail
   go_ret
   exact ⟨by rw [HD.out];rfl,HB1.out⟩
 ·have HD:=hid (HF.out hn)
  have hs:((⟨n1.toArray⟩:ByteArray).toList==(⟨n2.toArray⟩:ByteArray).toList)=false:=by
   rw [beq_eq_false_iff_ne,Lib.toList_data,Lib.toList_data];exact hn
  clear HE HR HF
  go_enter Tryz.func50,Tryz.ntmps50;go_wp2_with fail
  go_ret
  exact ⟨by rw [HD.out];rfl,HB.out⟩
theorem equalFS_any (xs ys:List ZV) (v u:Value) (w:World) (h1:RowsAt w w.heap.size 2 encZV v xs) (h2:RowsAt w w.heap.size 2 encZV u ys)
 (he1:∀q ∈ xs,RowsAt w w.heap.size 13 EraP.cells q.1.2 q.1.1.eras∧q.1.1.eras.length≤1048576) (he2:∀q ∈ ys,RowsAt w w.heap.size 13 EraP.cells q.1.2 q.1.1.eras∧q.1.1.eras.length≤1048576) (hl:xs.length≤1048576) (hl2:ys.length≤1048576) :
 Calls Tryz.prog 49 #[v,u,.func (.func 50) #[] #[]] w fun e w'=>e=.returned (.bool (decide (xs.map (fun q=>q.1.1)=ys.map (fun q=>q.1.1))))∧Below w.heap.size w w':=by
 obtain ⟨p1,c1,rfl,r1⟩:=h1;obtain ⟨p2,c2,rfl,r2⟩:=h2;have hTi:(Tryz.prog.info? 58).map (·.size)=some 2:=by kernel_rfl
 by_cases hn:xs.length=ys.length
 ·rw [hn] at hl ⊢
  have HR1:=hid r1;have HR2:=hid r2;have HE1:=hid he1;have HE2:=hid he2;clear r1 r2 he1 he2
  go_enter Tryz.func49,Tryz.ntmps49;go_wp2_with fail
  go_loopw [7,8,9,17] (fun _ _ _ i wr=>∃k:Nat,k≤ys.length∧i=.int .i64 (k:Int)∧Hid ((xs.map fun q=>q.1.1).take k=(ys.map fun q=>q.1.1).take k)∧Below w.heap.size w wr) (fun _ _ _ i _=>ys.length-(intOf i).toNat)
  case atStart=>exact ⟨0,Nat.zero_le _,rfl,hid rfl,Below.refl _ _⟩
  case round =>
   obtain ⟨k,hk,rfl,HA,hB⟩:=hrel
   by_cases hlt:k<ys.length
   ·obtain ⟨x,hx⟩:∃x,xs[k]? = some x:=⟨_,List.getElem?_eq_getElem (by omega)⟩
    obtain ⟨y,hy⟩:∃y,ys[k]? = some y:=⟨_,List.getElem?_eq_getElem hlt⟩;obtain ⟨b1,o1,rfl,hb1,ha1⟩:=HR1.out (by intro h;rw [h] at hn;simp at hn;omega);obtain ⟨b2,o2,rfl,hb2,ha2⟩:=HR2.out (by intro h;rw [h] at hlt;simp at hlt);have HC1:=hid (show wr.rangeAt b1 (o1+k*2) (encZV x).toList from fun j v hv=>(hB.cell (p:=⟨b1,o1+k*2+j,none⟩) hb1).trans (ha1 k x hx j v hv));have HC2:=hid (show ∀W,Below wr.heap.size wr W→W.rangeAt b2 (o2+k*2) (encZV y).toList from fun W hW j v hv=>((hB.trans (hW.mono hB.size)).cell (p:=⟨b2,o2+k*2+j,none⟩) hb2).trans (ha2 k y hy j v hv));have hd:decide ((k:Int)<(ys.length:Int))=true:=by simp;omega
    have k0:(0:Int)≤(k:Int):=by omega
    have kl:(k:Int)<(ys.length:Int):=by omega
    have HX:=hid (show (xs.map fun q=>q.1.1)[k]? = some x.1.1 by rw [List.getElem?_map,hx];rfl);have HY:=hid (show (ys.map fun q=>q.1.1)[k]? = some y.1.1 by rw [List.getElem?_map,hy];rfl)
    have HS:=hid (show ∀W,Below w.heap.size w W→Calls Tryz.prog 50 #[.agg (encZV x),.agg (encZV y)] W fun e w'=>e=.returned (.bool (decide (x.1.1=y.1.1)))∧Below W.heap.size W w' from fun W hW =>
     sameS1_any x.1.1 y.1.1 x.1.2 y.1.2 W (((HE1.out x (List.mem_of_getElem? hx)).1.below hW).mono hW.size) (((HE2.out y (List.mem_of_getElem? hy)).1.below hW).mono hW.size) (HE1.out x (List.mem_of_getElem? hx)).2 (HE2.out y (List.mem_of_getElem? hy)).2)
    have k1:=zone_cells x;have k2:=zone_cells y;have t1:(Tryz.prog.info? 58).map (·.size)=some (encZV x).size:=by rw [k1.1];exact hTi
    have t2:(Tryz.prog.info? 58).map (·.size)=some (encZV y).size:=by rw [k2.1];exact hTi
    generalize encZV x=C1 at *;generalize encZV y=C2 at *;have hB':=hid hB;obtain ⟨s1,o1c⟩:=k1;obtain ⟨s2,o2c⟩:=k2;have hz1:Blk (wr.alloc (.cells #[.string ⟨#[]⟩,.slice none 0 0] 58)) wr.heap.size 58 #[.string ⟨#[]⟩,.slice none 0 0]:=Blk.new' _ _ _ rfl;have hth1:(wr.alloc (.cells #[.string ⟨#[]⟩,.slice none 0 0] 58)).there wr.heap.size 0 C1.size:=hz1.there (by rw [s1];exact Nat.le_refl _);have hs1:=hz1.setAll C1 (by rw [s1];rfl);have hbA:Below wr.heap.size wr ((wr.alloc (.cells #[.string ⟨#[]⟩,.slice none 0 0] 58)).setCells wr.heap.size 0 C1.toList):=below_sets (Nat.le_refl _) _ _ _ ((Below.refl _ _).alloc (Nat.le_refl _) _);clear ha1 ha2 HR1 HR2 hx hy hB HE1 HE2 hz1
    go_upto_region 6 with (first
     | (refine wpList_load_arr rfl 58 (.tmp 20) rfl b1 (o1+k*2) rfl C1 _ HC1.out Tryz.underlying58 rfl t1 ?_)
     | (refine wpList_store_mid rfl 58 (.tmp 8) (.tmp 21) rfl wr.heap.size 0 C1 rfl rfl hth1 t1 o1c ?_)
     | fail)
    generalize (wr.alloc (.cells #[.string ⟨#[]⟩,.slice none 0 0] 58)).setCells wr.heap.size 0 C1.toList=wa at *;clear hth1;have hz2:Blk (wa.alloc (.cells #[.string ⟨#[]⟩,.slice none 0 0] 58)) wa.heap.size 58 #[.string ⟨#[]⟩,.slice none 0 0]:=Blk.new' _ _ _ rfl;have hth2:(wa.alloc (.cells #[.string ⟨#[]⟩,.slice none 0 0] 58)).there wa.heap.size 0 C2.size:=hz2.there (by rw [s2];exact Nat.le_refl _);have hs2:=hz2.setAll C2 (by rw [s2];rfl);have hbB:Below wa.heap.size wa ((wa.alloc (.cells #[.string ⟨#[]⟩,.slice none 0 0] 58)).setCells wa.heap.size 0 C2.toList):=below_sets (Nat.le_refl _) _ _ _ ((Below.refl _ _).alloc (Nat.le_refl _) _);have hs1':=hs1.below hbB hs1.lt;have HC2a:=hid (HC2.out wa hbA);have HBB:=hid (hB'.out.trans ((hbA.trans (hbB.mono hbA.size)).mono hB'.out.size));have HBlk:=hid (And.intro hs1' hs2);clear hs1 hz2 hbA hbB hs1' hs2 HC1 HC2 hB'
    go_upto_region 7 with (first
     | (refine wpList_load_arr rfl 58 (.tmp 24) rfl b2 (o2+k*2) rfl C2 _ HC2a.out Tryz.underlying58 rfl t2 ?_)
     | (refine wpList_store_mid rfl 58 (.tmp 9) (.tmp 25) rfl wa.heap.size 0 C2 rfl rfl hth2 t2 o2c ?_)
     | fail)
    generalize (wa.alloc (.cells #[.string ⟨#[]⟩,.slice none 0 0] 58)).setCells wa.heap.size 0 C2.toList=wb at *;clear hth2 HC2a;obtain ⟨r,hr⟩:∃r,decide (x.1.1=y.1.1)=r:=⟨_,rfl⟩;rw [hr] at HS;have HRR:=hid hr;clear hr
    cases r with
    | true =>
     have HT:=hid (take_eq HA.out HX.out HY.out (of_decide_eq_true HRR.out))
     go_wp2_with (first
      | (refine wpList_load_row rfl 58 (.tmp 8) rfl wr.heap.size rfl 58 C1 (0,0) _ HBlk.out.1 Tryz.underlying58 rfl t1 ?_)
      | (refine wpList_load_row rfl 58 (.tmp 9) rfl wa.heap.size rfl 58 C2 (0,0) _ HBlk.out.2 Tryz.underlying58 rfl t2 ?_)
      | fail)
     refine (HS.out _ HBB.out).mono ?_;rintro e w1 ⟨rfl,hb1⟩;have hB1:=HBB.out.trans (hb1.mono HBB.out.size);clear HA HX HY;go_wp2_with fail
     go_roundw
     case rel=>exact ⟨k+1,by omega,by go_num,HT,hB1⟩
     case measure=>simp [intOf];omega
    | false =>
     have HT:=hid (take_ne HX.out HY.out (of_decide_eq_false HRR.out))
     go_wp2_with (first
      | (refine wpList_load_row rfl 58 (.tmp 8) rfl wr.heap.size rfl 58 C1 (0,0) _ HBlk.out.1 Tryz.underlying58 rfl t1 ?_)
      | (refine wpList_load_row rfl 58 (.tmp 9) rfl wa.heap.size rfl 58 C2 (0,0) _ HBlk.out.2 Tryz.underlying58 rfl t2 ?_)
      | fail)
     refine (HS.out _ HBB.out).mono ?_;rintro e w1 ⟨rfl,hb1⟩;have hB1:=HBB.out.trans (hb1.mono HBB.out.size);clear HA HX HY;go_wp2_with fail
     go_ret
     exact ⟨by rw [decide_eq_false HT.out];rfl,hB1⟩
   ·obtain rfl:k=ys.length:=by omega
    have hd:decide ((ys.length:Int)<(ys.length:Int))=false:=by simp
    have HT:=hid (show (xs.map fun q=>q.1.1)=(ys.map fun q=>q.1.1) from by
     have h:=HA.out;rwa [List.take_of_length_le (by simp;omega),List.take_of_length_le (by simp)] at h)
    clear HA HR1 HR2 hlt hk;go_wp2_with fail
    go_ret
    exact ⟨by rw [decide_eq_true HT.out];rfl,hB⟩
 ·have hnI:((xs.length:Int) != (ys.length:Int))=true:=by rw [bne_iff_ne];omega
  have HF:=hid (show (xs.map fun q=>q.1.1)≠(ys.map fun q=>q.1.1) from fun h=>hn (by have:=congrArg List.length h;simpa using this));clear r1 r2 hn he1 he2
  go_enter Tryz.func49,Tryz.ntmps49;go_wp2_with fail
  go_ret
  exact ⟨by rw [decide_eq_false HF.out];rfl,Below.refl _ _⟩
theorem sameSrc_any (r z l h r' z' l' h':Value) (zs zs':List (ZoneP × Value)) (s s':SourceP) (w:World) (k1:SrcIs w w.heap.size r z l h zs s) (k2:SrcIs w w.heap.size r' z' l' h' zs' s') (n1:SrcLn s) (n2:SrcLn s') :
 Calls Tryz.prog 22 #[.agg #[r,z,l,h],.agg #[r',z',l',h']] w fun e w'=>e=.returned (.bool (decide (s=s')))∧Below w.heap.size w w':=by
 have hb0:Below w.heap.size w ((w.alloc (.cells #[r,z,l,h] 30)).alloc (.cells #[r',z',l',h'] 30)):=((Below.refl _ _).alloc (Nat.le_refl _) _).alloc (by simp) _;have hB1:Blk ((w.alloc (.cells #[r,z,l,h] 30)).alloc (.cells #[r',z',l',h'] 30)) w.heap.size 30 #[r,z,l,h]:=(Blk.new' _ _ _ rfl).alloc _;have hB2:Blk ((w.alloc (.cells #[r,z,l,h] 30)).alloc (.cells #[r',z',l',h'] 30)) (w.heap.size+1) 30 #[r',z',l',h']:=Blk.new' _ _ _ (by simp);have H1:=hid (fun W (hW:Below w.heap.size w W)=>equalRule_any s.rules s'.rules r r' W (k1.now hW).1 (k2.now hW).1 n1.rules n2.rules);have H3:=hid (fun W (hW:Below w.heap.size w W)=>equalLink_any s.links s'.links l l' W (k1.now hW).2.2.2.2.1 (k2.now hW).2.2.2.2.1 n1.links n2.links);have H4:=hid (fun W (hW:Below w.heap.size w W)=>equalStr_any s.shifts s'.shifts h h' W (k1.now hW).2.2.2.2.2 (k2.now hW).2.2.2.2.2 n1.shifts n2.shifts)
 have H2:=hid (show ∀W,Below w.heap.size w W→Calls Tryz.prog 49 #[z,z',.func (.func 50) #[] #[]] W fun e w'=>e=.returned (.bool (decide (s.zones=s'.zones)))∧Below W.heap.size W w' from fun W hW=>by
  obtain ⟨ys,hys⟩:=zv_of k1.2.2.2.1;obtain ⟨ys',hys'⟩:=zv_of k2.2.2.2.1;have q1:=k1.now hW;have q2:=k2.now hW;have e1:ys.map (fun q=>q.1.1)=s.zones:=by rw [←k1.2.2.1,←hys,List.map_map];rfl
  have e2:ys'.map (fun q=>q.1.1)=s'.zones:=by rw [←k2.2.2.1,←hys',List.map_map];rfl
  have l1:ys.length=s.zones.length:=by rw [←e1];simp
  have l2:ys'.length=s'.zones.length:=by rw [←e2];simp
  have:=equalFS_any ys ys' z z' W (RowsAt.unmap (fun q:ZV=>q.1) ys (by rw [hys];exact q1.2.1)) (RowsAt.unmap (fun q:ZV=>q.1) ys' (by rw [hys'];exact q2.2.1))
   (fun q hq=>⟨q1.2.2.2.1 q.1 (by rw [←hys];exact List.mem_map.2 ⟨q,hq,rfl⟩),n1.eras _ (by rw [←e1];exact List.mem_map.2 ⟨q,hq,rfl⟩)⟩)
   (fun q hq=>⟨q2.2.2.2.1 q.1 (by rw [←hys'];exact List.mem_map.2 ⟨q,hq,rfl⟩),n2.eras _ (by rw [←e2];exact List.mem_map.2 ⟨q,hq,rfl⟩)⟩) (by rw [l1];exact n1.zones) (by rw [l2];exact n2.zones)
  rwa [e1,e2] at this)
 have hR:∀b1 b2 b3 b4:Bool,decide (s.rules=s'.rules)=b1→decide (s.zones=s'.zones)=b2→decide (s.links=s'.links)=b3→decide (s.shifts=s'.shifts)=b4→decide (s=s')=(b1&&b2&&b3&&b4):=fun b1 b2 b3 b4 e1 e2 e3 e4=>by
  rw [←e1,←e2,←e3,←e4,←Bool.decide_and,←Bool.decide_and,←Bool.decide_and];refine decide_eq_decide.2 ⟨fun h=>by rw [h];exact ⟨⟨⟨rfl,rfl⟩,rfl⟩,rfl⟩,fun ⟨⟨⟨q1,q2⟩,q3⟩,q4⟩=>?_⟩
  cases s;cases s'
  simp only at q1 q2 q3 q4;rw [q1,q2,q3,q4]
 obtain ⟨b1,hb1⟩:∃b,decide (s.rules=s'.rules)=b:=⟨_,rfl⟩;obtain ⟨b2,hb2⟩:∃b,decide (s.zones=s'.zones)=b:=⟨_,rfl⟩;obtain ⟨b3,hb3⟩:∃b,decide (s.links=s'.links)=b:=⟨_,rfl⟩;obtain ⟨b4,hb4⟩:∃b,decide (s.shifts=s'.shifts)=b:=⟨_,rfl⟩;have HR:=hid (hR b1 b2 b3 b4 hb1 hb2 hb3 hb4);rw [hb1] at H1;rw [hb2] at H2;rw [hb3] at H3;rw [hb4] at H4;obtain ⟨p1,c1,rfl⟩:=k1.1.slice;obtain ⟨p2,c2,rfl⟩:=k1.2.1.slice;obtain ⟨p3,c3,rfl⟩:=k1.2.2.2.2.1.slice;obtain ⟨p4,c4,rfl⟩:=k1.2.2.2.2.2.slice;obtain ⟨p5,c5,rfl⟩:=k2.1.slice;obtain ⟨p6,c6,rfl⟩:=k2.2.1.slice;obtain ⟨p7,c7,rfl⟩:=k2.2.2.2.2.1.slice;obtain ⟨p8,c8,rfl⟩:=k2.2.2.2.2.2.slice;have HW:=hid (And.intro hB1 (And.intro hB2 hb0));clear hb0 hB1 hB2 k1 k2 n1 n2 hR hb1 hb2 hb3 hb4
 cases b1
 ·go_enter Tryz.func22,Tryz.ntmps22
  go_wp2_with fail
  refine (H1.out _ HW.out.2.2).mono ?_;rintro e w1 ⟨rfl,hb1⟩;have hB:=hid (HW.out.2.2.trans (hb1.mono HW.out.2.2.size));clear hb1;go_wp2_with fail
  go_ret
  exact ⟨by rw [HR.out];rfl,hB.out⟩
 cases b2
 ·go_enter Tryz.func22,Tryz.ntmps22
  go_wp2_with fail
  refine (H1.out _ HW.out.2.2).mono ?_;rintro e w1 ⟨rfl,hb1⟩;have q1:=HW.out.1.below hb1 HW.out.1.lt;have q2:=HW.out.2.1.below hb1 HW.out.2.1.lt;have c11:=q1.cell_ (i:=1) rfl;have c21:=q2.cell_ (i:=1) rfl;have hB:=hid (HW.out.2.2.trans (hb1.mono HW.out.2.2.size));clear hb1 q1 q2;go_wp2_with fail
  refine (H2.out _ hB.out).mono ?_;rintro e w2 ⟨rfl,hb2⟩;have hB2:=hid (hB.out.trans (hb2.mono hB.out.size));clear hb2;go_wp2_with fail
  go_ret
  exact ⟨by rw [HR.out];rfl,hB2.out⟩
 cases b3
 ·go_enter Tryz.func22,Tryz.ntmps22
  go_wp2_with fail
  refine (H1.out _ HW.out.2.2).mono ?_;rintro e w1 ⟨rfl,hb1⟩;have q1:=HW.out.1.below hb1 HW.out.1.lt;have q2:=HW.out.2.1.below hb1 HW.out.2.1.lt;have c11:=q1.cell_ (i:=1) rfl;have c21:=q2.cell_ (i:=1) rfl;have hB:=hid (And.intro q1 (And.intro q2 (HW.out.2.2.trans (hb1.mono HW.out.2.2.size))));clear hb1 q1 q2;go_wp2_with fail
  refine (H2.out _ hB.out.2.2).mono ?_;rintro e w2 ⟨rfl,hb2⟩;have q1:=hB.out.1.below hb2 hB.out.1.lt;have q2:=hB.out.2.1.below hb2 hB.out.2.1.lt;have c12:=q1.cell_ (i:=2) rfl;have c22:=q2.cell_ (i:=2) rfl;have hB2:=hid (hB.out.2.2.trans (hb2.mono hB.out.2.2.size));clear hb2 q1 q2 c11 c21;go_wp2_with fail
  refine (H3.out _ hB2.out).mono ?_;rintro e w3 ⟨rfl,hb3⟩;have hB3:=hid (hB2.out.trans (hb3.mono hB2.out.size));clear hb3;go_wp2_with fail
  go_ret
  exact ⟨by rw [HR.out];rfl,hB3.out⟩
 cases b4
 all_goals
  go_enter Tryz.func22,Tryz.ntmps22;go_wp2_with fail
  refine (H1.out _ HW.out.2.2).mono ?_;rintro e w1 ⟨rfl,hb1⟩;have q1:=HW.out.1.below hb1 HW.out.1.lt;have q2:=HW.out.2.1.below hb1 HW.out.2.1.lt;have c11:=q1.cell_ (i:=1) rfl;have c21:=q2.cell_ (i:=1) rfl;have hB:=hid (And.intro q1 (And.intro q2 (HW.out.2.2.trans (hb1.mono HW.out.2.2.size))));clear hb1 q1 q2;go_wp2_with fail
  refine (H2.out _ hB.out.2.2).mono ?_;rintro e w2 ⟨rfl,hb2⟩;have q1:=hB.out.1.below hb2 hB.out.1.lt;have q2:=hB.out.2.1.below hb2 hB.out.2.1.lt;have c12:=q1.cell_ (i:=2) rfl;have c22:=q2.cell_ (i:=2) rfl;have hB2:=hid (And.intro q1 (And.intro q2 (hB.out.2.2.trans (hb2.mono hB.out.2.2.size))));clear hb2 q1 q2 c11 c21;go_wp2_with fail
  refine (H3.out _ hB2.out.2.2).mono ?_;rintro e w3 ⟨rfl,hb3⟩;have q1:=hB2.out.1.below hb3 hB2.out.1.lt;have q2:=hB2.out.2.1.below hb3 hB2.out.2.1.lt;have c13:=q1.cell_ (i:=3) rfl;have c23:=q2.cell_ (i:=3) rfl;have hB3:=hid (hB2.out.2.2.trans (hb3.mono hB2.out.2.2.size));clear hb3 q1 q2 c12 c22;go_wp2_with fail
  refine (H4.out _ hB3.out).mono ?_;rintro e w4 ⟨rfl,hb4⟩;have hB4:=hid (hB3.out.trans (hb4.mono hB3.out.size));clear hb4;go_wp2_with fail
  go_ret
  exact ⟨by rw [HR.out];rfl,hB4.out⟩
theorem equalInt_any (xs ys:List Int) (v u:Value) (w:World) (h1:RowsAt w w.heap.size 1 encI v xs) (h2:RowsAt w w.heap.size 1 encI u ys) (hl:xs.length≤1048576) (hl2:ys.length≤1048576) :
 Calls Tryz.prog 53 #[v,u] w fun e w'=>e=.returned (.bool (decide (xs=ys)))∧Below w.heap.size w w':=by
 obtain ⟨p1,c1,rfl,r1⟩:=h1;obtain ⟨p2,c2,rfl,r2⟩:=h2
 by_cases hn:xs.length=ys.length
 ·rw [hn] at hl ⊢
  have HR1:=hid r1;have HR2:=hid r2;clear r1 r2
  go_enter Tryz.func53,Tryz.ntmps53;go_wp2_with fail
  go_loopw [5,13] (fun _ i wr=>∃k:Nat,k≤ys.length∧i=.int .i64 (k:Int)∧Hid (xs.take k=ys.take k)∧Below w.heap.size w wr) (fun _ i _=>ys.length-(intOf i).toNat)
  case atStart=>exact ⟨0,Nat.zero_le _,rfl,hid rfl,Below.refl _ _⟩
  case round =>
   obtain ⟨k,hk,rfl,HA,hB⟩:=hrel
   by_cases hlt:k<ys.length
   ·obtain ⟨x,hx⟩:∃x,xs[k]? = some x:=⟨_,List.getElem?_eq_getElem (by omega)⟩
    obtain ⟨y,hy⟩:∃y,ys[k]? = some y:=⟨_,List.getElem?_eq_getElem hlt⟩;obtain ⟨b1,o1,rfl,hb1,ha1⟩:=HR1.out (by intro h;rw [h] at hn;simp at hn;omega);obtain ⟨b2,o2,rfl,hb2,ha2⟩:=HR2.out (by intro h;rw [h] at hlt;simp at hlt);have HC1:=hid (show wr.drew.rangeAt b1 (o1+k*1) (encI x).toList from fun j v hv=>(hB.cell (p:=⟨b1,o1+k*1+j,none⟩) hb1).trans (ha1 k x hx j v hv));have HC2:=hid (show wr.drew.rangeAt b2 (o2+k*1) (encI y).toList from fun j v hv=>(hB.cell (p:=⟨b2,o2+k*1+j,none⟩) hb2).trans (ha2 k y hy j v hv));have hd:decide ((k:Int)<(ys.length:Int))=true:=by simp;omega
    have k0:(0:Int)≤(k:Int):=by omega
    have kl:(k:Int)<(ys.length:Int):=by omega
    have HX:=hid hx;have HY:=hid hy;clear ha1 ha2 HR1 HR2 hx hy
    by_cases hxy:x=y
    ·subst hxy
     have hxx:(x != x)=false:=by simp
     have HT:=hid (take_eq HA.out HX.out HY.out rfl);simp only [encI] at HC1 HC2;clear HX HY HA;go_wp2_with fail
     refine wp_region_vals 9 (fun W=>W.rangeAt b1 (o1+k*1) [.int .i64 x]∧W.rangeAt b2 (o2+k*1) [.int .i64 x]∧Below w.heap.size w W) (by kernel_rfl) (by kernel_rfl) rfl ⟨HC1.out,HC2.out,hB.drew⟩
      (fun W W' h hb=>⟨fun j v hv=>(hb.cell (p:=⟨b1,o1+k*1+j,none⟩) (Nat.lt_of_lt_of_le hb1 h.2.2.size)).trans (h.1 j v hv),fun j v hv=>(hb.cell (p:=⟨b2,o2+k*1+j,none⟩) (Nat.lt_of_lt_of_le hb2 h.2.2.size)).trans (h.2.1 j v hv),h.2.2.trans (hb.mono h.2.2.size)⟩) ?_
     iterate 3
      apply exV_ex rfl ?_ (fun K hK=>?_)
      any_goals
       intro W hC;go_simp
       all_goals exact ⟨Below.refl _ _,rfl⟩
      any_goals
       revert hK
       intro hK;go_simp;refine hK _ ?_;clear hK K
     refine exV_ex (v:=.int .i64 x) rfl (fun W hC=>?_) (fun K hK=>?_)
     ·have c:=hC.1 0 _ rfl
      simp only [Nat.mul_one,Nat.add_zero] at c;go_simp
      first|exact ⟨Below.refl _ _,rfl⟩|exact Below.refl _ _
     revert hK
     intro hK;go_simp;refine hK _ ?_;clear hK K
     iterate 3
      apply exV_ex rfl ?_ (fun K hK=>?_)
      any_goals
       intro W hC;go_simp
       all_goals exact ⟨Below.refl _ _,rfl⟩
      any_goals
       revert hK
       intro hK;go_simp;refine hK _ ?_;clear hK K
     refine exV_ex (v:=.int .i64 x) rfl (fun W hC=>?_) (fun K hK=>?_)
     ·have c:=hC.2.1 0 _ rfl
      simp only [Nat.mul_one,Nat.add_zero] at c;go_simp
      first|exact ⟨Below.refl _ _,rfl⟩|exact Below.refl _ _
     revert hK
     intro hK;go_simp;refine hK _ ?_;clear hK K;refine exV_ex (v:=.bool false) rfl (fun W hC=>?_) (fun K hK=>?_)
     ·go_simp
      first|exact ⟨Below.refl _ _,rfl⟩|exact Below.refl _ _
     revert hK
     intro hK;go_simp;refine hK _ ?_;clear hK K;refine exV_end fun W hC=>(wpList_nil ?_)
     go_wp2_with fail
     go_roundw
     case rel=>exact ⟨k+1,by omega,by go_num,HT,hC.2.2⟩
     case measure=>simp [intOf];omega
    ·have hxn:(x != y)=true:=by simp [hxy]
     have HF:=hid (take_ne HX.out HY.out hxy);simp only [encI] at HC1 HC2;clear HX HY HA;go_wp2_with fail
     refine wp_region_vals 9 (fun W=>W.rangeAt b1 (o1+k*1) [.int .i64 x]∧W.rangeAt b2 (o2+k*1) [.int .i64 y]∧Below w.heap.size w W) (by kernel_rfl) (by kernel_rfl) rfl ⟨HC1.out,HC2.out,hB.drew⟩
      (fun W W' h hb=>⟨fun j v hv=>(hb.cell (p:=⟨b1,o1+k*1+j,none⟩) (Nat.lt_of_lt_of_le hb1 h.2.2.size)).trans (h.1 j v hv),fun j v hv=>(hb.cell (p:=⟨b2,o2+k*1+j,none⟩) (Nat.lt_of_lt_of_le hb2 h.2.2.size)).trans (h.2.1 j v hv),h.2.2.trans (hb.mono h.2.2.size)⟩) ?_
     iterate 3
      apply exV_ex rfl ?_ (fun K hK=>?_)
      any_goals
       intro W hC;go_simp
       all_goals exact ⟨Below.refl _ _,rfl⟩
      any_goals
       revert hK
       intro hK;go_simp;refine hK _ ?_;clear hK K
     refine exV_ex (v:=.int .i64 x) rfl (fun W hC=>?_) (fun K hK=>?_)
     ·have c:=hC.1 0 _ rfl
      simp only [Nat.mul_one,Nat.add_zero] at c;go_simp
      first|exact ⟨Below.refl _ _,rfl⟩|exact Below.refl _ _
     revert hK
     intro hK;go_simp;refine hK _ ?_;clear hK K
     iterate 3
      apply exV_ex rfl ?_ (fun K hK=>?_)
      any_goals
       intro W hC;go_simp
       all_goals exact ⟨Below.refl _ _,rfl⟩
      any_goals
       revert hK
       intro hK;go_simp;refine hK _ ?_;clear hK K
     refine exV_ex (v:=.int .i64 y) rfl (fun W hC=>?_) (fun K hK=>?_)
     ·have c:=hC.2.1 0 _ rfl
      simp only [Nat.mul_one,Nat.add_zero] at c;go_simp
      first|exact ⟨Below.refl _ _,rfl⟩|exact Below.refl _ _
     revert hK
     intro hK;go_simp;refine hK _ ?_;clear hK K;refine exV_ex (v:=.bool true) rfl (fun W hC=>?_) (fun K hK=>?_)
     ·go_simp
      first|exact ⟨Below.refl _ _,rfl⟩|exact Below.refl _ _
     revert hK
     intro hK;go_simp;refine hK _ ?_;clear hK K;refine exV_end fun W hC=>(wpList_nil ?_)
     go_wp2_with fail
     go_ret
     exact ⟨by rw [decide_eq_false HF.out];rfl,hC.2.2⟩
   ·obtain rfl:k=ys.length:=by omega
    have hd:decide ((ys.length:Int)<(ys.length:Int))=false:=by simp
    have HT:=hid (show xs=ys from by
     have h:=HA.out;rwa [List.take_length,List.take_of_length_le (by omega)] at h)
    clear HA HR1 HR2 hlt hk;go_wp2_with fail
    go_ret
    exact ⟨by rw [decide_eq_true HT.out];rfl,hB⟩
 ·have hnI:((xs.length:Int) != (ys.length:Int))=true:=by rw [bne_iff_ne];omega
  have HF:=hid (show xs≠ys from fun h=>hn (by rw [h]));clear r1 r2 hn
  go_enter Tryz.func53,Tryz.ntmps53;go_wp2_with fail
  go_ret
  exact ⟨by rw [decide_eq_false HF.out];rfl,Below.refl _ _⟩
theorem equalLL_any (xs ys:List IV) (v u:Value) (w:World) (h1:RowsAt w w.heap.size 1 encW v xs) (h2:RowsAt w w.heap.size 1 encW u ys)
 (he1:∀q ∈ xs,RowsAt w w.heap.size 1 encI q.1 q.2∧q.2.length≤1048576) (he2:∀q ∈ ys,RowsAt w w.heap.size 1 encI q.1 q.2∧q.2.length≤1048576) (hl:xs.length≤1048576) (hl2:ys.length≤1048576) :
 Calls Tryz.prog 54 #[v,u,.func (.func 53) #[] #[]] w fun e w'=>e=.returned (.bool (decide (xs.map (fun q=>q.2)=ys.map (fun q=>q.2))))∧Below w.heap.size w w':=by
 obtain ⟨p1,c1,rfl,r1⟩:=h1;obtain ⟨p2,c2,rfl,r2⟩:=h2
 by_cases hn:xs.length=ys.length
 ·rw [hn] at hl ⊢
  have HR1:=hid r1;have HR2:=hid r2;have HE1:=hid he1;have HE2:=hid he2;clear r1 r2 he1 he2
  go_enter Tryz.func54,Tryz.ntmps54;go_wp2_with fail
  go_loopw [7,8,9,17] (fun _ _ _ i wr=>∃k:Nat,k≤ys.length∧i=.int .i64 (k:Int)∧Hid ((xs.map fun q=>q.2).take k=(ys.map fun q=>q.2).take k)∧Below w.heap.size w wr) (fun _ _ _ i _=>ys.length-(intOf i).toNat)
  case atStart=>exact ⟨0,Nat.zero_le _,rfl,hid rfl,Below.refl _ _⟩
  case round =>
   obtain ⟨k,hk,rfl,HA,hB⟩:=hrel
   by_cases hlt:k<ys.length
   ·obtain ⟨⟨xv,xl⟩,hx⟩:∃x,xs[k]? = some x:=⟨_,List.getElem?_eq_getElem (by omega)⟩
    obtain ⟨⟨yv,yl⟩,hy⟩:∃y,ys[k]? = some y:=⟨_,List.getElem?_eq_getElem hlt⟩;obtain ⟨b1,o1,rfl,hb1,ha1⟩:=HR1.out (by intro h;rw [h] at hn;simp at hn;omega);obtain ⟨b2,o2,rfl,hb2,ha2⟩:=HR2.out (by intro h;rw [h] at hlt;simp at hlt)
    have z1:wr.cell? ⟨b1,o1+k,none⟩=some xv:=by
     have:=ha1 k _ hx 0 xv rfl;rw [Nat.mul_one,Nat.add_zero] at this;exact (hB.cell (p:=⟨b1,o1+k,none⟩) hb1).trans this
    have z2:wr.cell? ⟨b2,o2+k,none⟩=some yv:=by
     have:=ha2 k _ hy 0 yv rfl;rw [Nat.mul_one,Nat.add_zero] at this;exact (hB.cell (p:=⟨b2,o2+k,none⟩) hb2).trans this
    have hd:decide ((k:Int)<(ys.length:Int))=true:=by simp;omega
    have k0:(0:Int)≤(k:Int):=by omega
    have kl:(k:Int)<(ys.length:Int):=by omega
    have HX:=hid (show (xs.map fun q=>q.2)[k]? = some xl by rw [List.getElem?_map,hx];rfl);have HY:=hid (show (ys.map fun q=>q.2)[k]? = some yl by rw [List.getElem?_map,hy];rfl)
    have HS:=hid (show ∀W,Below w.heap.size w W→Calls Tryz.prog 53 #[xv,yv] W fun e w'=>e=.returned (.bool (decide (xl=yl)))∧Below W.heap.size W w' from fun W hW =>
     equalInt_any xl yl xv yv W (((HE1.out _ (List.mem_of_getElem? hx)).1.below hW).mono hW.size) (((HE2.out _ (List.mem_of_getElem? hy)).1.below hW).mono hW.size) (HE1.out _ (List.mem_of_getElem? hx)).2 (HE2.out _ (List.mem_of_getElem? hy)).2)
    obtain ⟨px,cx,ex⟩:=(HE1.out _ (List.mem_of_getElem? hx)).1.slice;obtain ⟨py,cy,ey⟩:=(HE2.out _ (List.mem_of_getElem? hy)).1.slice;replace ex:xv=.slice px xl.length cx:=ex;replace ey:yv=.slice py yl.length cy:=ey;subst ex ey;have hB':=hid hB;clear ha1 ha2 HR1 HR2 hx hy hB HE1 HE2;obtain ⟨r,hr⟩:∃r,decide (xl=yl)=r:=⟨_,rfl⟩;rw [hr] at HS;have HRR:=hid hr;clear hr
    cases r with
    | true =>
     have HT:=hid (take_eq HA.out HX.out HY.out (of_decide_eq_true HRR.out));go_wp2_with fail
     refine (HS.out _ hB'.out).mono ?_;rintro e w1 ⟨rfl,hb1⟩;have hB1:=hB'.out.trans (hb1.mono hB'.out.size);clear HA HX HY;go_wp2_with fail
     go_roundw
     case rel=>exact ⟨k+1,by omega,by go_num,HT,hB1⟩
     case measure=>simp [intOf];omega
    | false =>
     have HT:=hid (take_ne HX.out HY.out (of_decide_eq_false HRR.out));go_wp2_with fail
     refine (HS.out _ hB'.out).mono ?_;rintro e w1 ⟨rfl,hb1⟩;have hB1:=hB'.out.trans (hb1.mono hB'.out.size);clear HA HX HY;go_wp2_with fail
     go_ret
     exact ⟨by rw [decide_eq_false HT.out];rfl,hB1⟩
   ·obtain rfl:k=ys.length:=by omega
    have hd:decide ((ys.length:Int)<(ys.length:Int))=false:=by simp
    have HT:=hid (show (xs.map fun q=>q.2)=(ys.map fun q=>q.2) from by
     have h:=HA.out;rwa [List.take_of_length_le (by simp;omega),List.take_of_length_le (by simp)] at h)
    clear HA HR1 HR2 hlt hk;go_wp2_with fail
    go_ret
    exact ⟨by rw [decide_eq_true HT.out];rfl,hB⟩
 ·have hnI:((xs.length:Int) != (ys.length:Int))=true:=by rw [bne_iff_ne];omega
  have HF:=hid (show (xs.map fun q=>q.2)≠(ys.map fun q=>q.2) from fun h=>hn (by have:=congrArg List.length h;simpa using this));clear r1 r2 hn he1 he2
  go_enter Tryz.func54,Tryz.ntmps54;go_wp2_with fail
  go_ret
  exact ⟨by rw [decide_eq_false HF.out];rfl,Below.refl _ _⟩
structure LnLn (l:LinesP):Prop where
 rules:l.rules.length≤1048576
 eras:l.eras.length≤1048576
 links:l.links.length≤1048576
 shifts:l.shifts.length≤1048576
 each:∀x ∈ l.eras,x.length≤1048576
theorem LnIs.mono {w:World} {n₀ n₁:Nat} {u1 u2 u3 u4:Value} {el:List IV} {l:LinesP} (k:LnIs w n₀ u1 u2 u3 u4 el l) (hn:n₀≤n₁):LnIs w n₁ u1 u2 u3 u4 el l :=
 ⟨k.1.mono hn,k.2.1.mono hn,k.2.2.1,fun q hq=>(k.2.2.2.1 q hq).mono hn,k.2.2.2.2.1.mono hn,k.2.2.2.2.2.mono hn⟩
theorem LnIs.now {w W:World} {u1 u2 u3 u4:Value} {el:List IV} {l:LinesP} (k:LnIs w w.heap.size u1 u2 u3 u4 el l) (hb:Below w.heap.size w W):LnIs W W.heap.size u1 u2 u3 u4 el l:=(k.below hb).mono hb.size
theorem sameLn_any (r z l h r' z' l' h':Value) (zs zs':List IV) (s s':LinesP) (w:World) (k1:LnIs w w.heap.size r z l h zs s) (k2:LnIs w w.heap.size r' z' l' h' zs' s') (n1:LnLn s) (n2:LnLn s') :
 Calls Tryz.prog 23 #[.agg #[r,z,l,h],.agg #[r',z',l',h']] w fun e w'=>e=.returned (.bool (decide (s=s')))∧Below w.heap.size w w':=by
 have hb0:Below w.heap.size w ((w.alloc (.cells #[r,z,l,h] 35)).alloc (.cells #[r',z',l',h'] 35)):=((Below.refl _ _).alloc (Nat.le_refl _) _).alloc (by simp) _;have hB1:Blk ((w.alloc (.cells #[r,z,l,h] 35)).alloc (.cells #[r',z',l',h'] 35)) w.heap.size 35 #[r,z,l,h]:=(Blk.new' _ _ _ rfl).alloc _;have hB2:Blk ((w.alloc (.cells #[r,z,l,h] 35)).alloc (.cells #[r',z',l',h'] 35)) (w.heap.size+1) 35 #[r',z',l',h']:=Blk.new' _ _ _ (by simp);have H1:=hid (fun W (hW:Below w.heap.size w W)=>equalInt_any s.rules s'.rules r r' W (k1.now hW).1 (k2.now hW).1 n1.rules n2.rules);have H3:=hid (fun W (hW:Below w.heap.size w W)=>equalInt_any s.links s'.links l l' W (k1.now hW).2.2.2.2.1 (k2.now hW).2.2.2.2.1 n1.links n2.links);have H4:=hid (fun W (hW:Below w.heap.size w W)=>equalInt_any s.shifts s'.shifts h h' W (k1.now hW).2.2.2.2.2 (k2.now hW).2.2.2.2.2 n1.shifts n2.shifts)
 have H2:=hid (show ∀W,Below w.heap.size w W→Calls Tryz.prog 54 #[z,z',.func (.func 53) #[] #[]] W fun e w'=>e=.returned (.bool (decide (s.eras=s'.eras)))∧Below W.heap.size W w' from fun W hW=>by
  have q1:=k1.now hW;have q2:=k2.now hW;have l1:zs.length=s.eras.length:=by rw [←k1.2.2.1];simp
  have l2:zs'.length=s'.eras.length:=by rw [←k2.2.2.1];simp
  have:=equalLL_any zs zs' z z' W q1.2.1 q2.2.1 (fun q hq=>⟨q1.2.2.2.1 q hq,n1.each _ (by rw [←k1.2.2.1];exact List.mem_map.2 ⟨q,hq,rfl⟩)⟩) (fun q hq=>⟨q2.2.2.2.1 q hq,n2.each _ (by rw [←k2.2.2.1];exact List.mem_map.2 ⟨q,hq,rfl⟩)⟩) (by rw [l1];exact n1.eras) (by rw [l2];exact n2.eras);rwa [k1.2.2.1,k2.2.2.1] at this)
 have hR:∀b1 b2 b3 b4:Bool,decide (s.rules=s'.rules)=b1→decide (s.eras=s'.eras)=b2→decide (s.links=s'.links)=b3→decide (s.shifts=s'.shifts)=b4→decide (s=s')=(b1&&b2&&b3&&b4):=fun b1 b2 b3 b4 e1 e2 e3 e4=>by
  rw [←e1,←e2,←e3,←e4,←Bool.decide_and,←Bool.decide_and,←Bool.decide_and];refine decide_eq_decide.2 ⟨fun h=>by rw [h];exact ⟨⟨⟨rfl,rfl⟩,rfl⟩,rfl⟩,fun ⟨⟨⟨q1,q2⟩,q3⟩,q4⟩=>?_⟩
  cases s;cases s'
  simp only at q1 q2 q3 q4;rw [q1,q2,q3,q4]
 obtain ⟨b1,hb1⟩:∃b,decide (s.rules=s'.rules)=b:=⟨_,rfl⟩;obtain ⟨b2,hb2⟩:∃b,decide (s.eras=s'.eras)=b:=⟨_,rfl⟩;obtain ⟨b3,hb3⟩:∃b,decide (s.links=s'.links)=b:=⟨_,rfl⟩;obtain ⟨b4,hb4⟩:∃b,decide (s.shifts=s'.shifts)=b:=⟨_,rfl⟩;have HR:=hid (hR b1 b2 b3 b4 hb1 hb2 hb3 hb4);rw [hb1] at H1;rw [hb2] at H2;rw [hb3] at H3;rw [hb4] at H4;obtain ⟨p1,c1,rfl⟩:=k1.1.slice;obtain ⟨p2,c2,rfl⟩:=k1.2.1.slice;obtain ⟨p3,c3,rfl⟩:=k1.2.2.2.2.1.slice;obtain ⟨p4,c4,rfl⟩:=k1.2.2.2.2.2.slice;obtain ⟨p5,c5,rfl⟩:=k2.1.slice;obtain ⟨p6,c6,rfl⟩:=k2.2.1.slice;obtain ⟨p7,c7,rfl⟩:=k2.2.2.2.2.1.slice;obtain ⟨p8,c8,rfl⟩:=k2.2.2.2.2.2.slice;have HW:=hid (And.intro hB1 (And.intro hB2 hb0));clear hb0 hB1 hB2 k1 k2 n1 n2 hR hb1 hb2 hb3 hb4
 cases b1
 ·go_enter Tryz.func23,Tryz.ntmps23
  go_wp2_with fail
  refine (H1.out _ HW.out.2.2).mono ?_;rintro e w1 ⟨rfl,hb1⟩;have hB:=hid (HW.out.2.2.trans (hb1.mono HW.out.2.2.size));clear hb1;go_wp2_with fail
  go_ret
  exact ⟨by rw [HR.out];rfl,hB.out⟩
 cases b2
 ·go_enter Tryz.func23,Tryz.ntmps23
  go_wp2_with fail
  refine (H1.out _ HW.out.2.2).mono ?_;rintro e w1 ⟨rfl,hb1⟩;have q1:=HW.out.1.below hb1 HW.out.1.lt;have q2:=HW.out.2.1.below hb1 HW.out.2.1.lt;have c11:=q1.cell_ (i:=1) rfl;have c21:=q2.cell_ (i:=1) rfl;have hB:=hid (HW.out.2.2.trans (hb1.mono HW.out.2.2.size));clear hb1 q1 q2;go_wp2_with fail
  refine (H2.out _ hB.out).mono ?_;rintro e w2 ⟨rfl,hb2⟩;have hB2:=hid (hB.out.trans (hb2.mono hB.out.size));clear hb2;go_wp2_with fail
  go_ret
  exact ⟨by rw [HR.out];rfl,hB2.out⟩
 cases b3
 ·go_enter Tryz.func23,Tryz.ntmps23
  go_wp2_with fail
  refine (H1.out _ HW.out.2.2).mono ?_;rintro e w1 ⟨rfl,hb1⟩;have q1:=HW.out.1.below hb1 HW.out.1.lt;have q2:=HW.out.2.1.below hb1 HW.out.2.1.lt;have c11:=q1.cell_ (i:=1) rfl;have c21:=q2.cell_ (i:=1) rfl;have hB:=hid (And.intro q1 (And.intro q2 (HW.out.2.2.trans (hb1.mono HW.out.2.2.size))));clear hb1 q1 q2;go_wp2_with fail
  refine (H2.out _ hB.out.2.2).mono ?_;rintro e w2 ⟨rfl,hb2⟩;have q1:=hB.out.1.below hb2 hB.out.1.lt;have q2:=hB.out.2.1.below hb2 hB.out.2.1.lt;have c12:=q1.cell_ (i:=2) rfl;have c22:=q2.cell_ (i:=2) rfl;have hB2:=hid (hB.out.2.2.trans (hb2.mono hB.out.2.2.size));clear hb2 q1 q2 c11 c21;go_wp2_with fail
  refine (H3.out _ hB2.out).mono ?_;rintro e w3 ⟨rfl,hb3⟩;have hB3:=hid (hB2.out.trans (hb3.mono hB2.out.size));clear hb3;go_wp2_with fail
  go_ret
  exact ⟨by rw [HR.out];rfl,hB3.out⟩
 cases b4
 all_goals
  go_enter Tryz.func23,Tryz.ntmps23;go_wp2_with fail
  refine (H1.out _ HW.out.2.2).mono ?_;rintro e w1 ⟨rfl,hb1⟩;have q1:=HW.out.1.below hb1 HW.out.1.lt;have q2:=HW.out.2.1.below hb1 HW.out.2.1.lt;have c11:=q1.cell_ (i:=1) rfl;have c21:=q2.cell_ (i:=1) rfl;have hB:=hid (And.intro q1 (And.intro q2 (HW.out.2.2.trans (hb1.mono HW.out.2.2.size))));clear hb1 q1 q2;go_wp2_with fail
  refine (H2.out _ hB.out.2.2).mono ?_;rintro e w2 ⟨rfl,hb2⟩;have q1:=hB.out.1.below hb2 hB.out.1.lt;have q2:=hB.out.2.1.below hb2 hB.out.2.1.lt;have c12:=q1.cell_ (i:=2) rfl;have c22:=q2.cell_ (i:=2) rfl;have hB2:=hid (And.intro q1 (And.intro q2 (hB.out.2.2.trans (hb2.mono hB.out.2.2.size))));clear hb2 q1 q2 c11 c21;go_wp2_with fail
  refine (H3.out _ hB2.out.2.2).mono ?_;rintro e w3 ⟨rfl,hb3⟩;have q1:=hB2.out.1.below hb3 hB2.out.1.lt;have q2:=hB2.out.2.1.below hb3 hB2.out.2.1.lt;have c13:=q1.cell_ (i:=3) rfl;have c23:=q2.cell_ (i:=3) rfl;have hB3:=hid (hB2.out.2.2.trans (hb3.mono hB2.out.2.2.size));clear hb3 q1 q2 c12 c22;go_wp2_with fail
  refine (H4.out _ hB3.out).mono ?_;rintro e w4 ⟨rfl,hb4⟩;have hB4:=hid (hB3.out.trans (hb4.mono hB3.out.size));clear hb4;go_wp2_with fail
  go_ret
  exact ⟨by rw [HR.out];rfl,hB4.out⟩
theorem SrcIs.nil (w:World) (n:Nat):SrcIs w n (.slice none 0 0) (.slice none 0 0) (.slice none 0 0) (.slice none 0 0) [] SourceP.none :=
 ⟨⟨none,0,rfl,fun h=>absurd rfl h⟩,⟨none,0,rfl,fun h=>absurd rfl h⟩,rfl,fun q hq=>(by cases hq),⟨none,0,rfl,fun h=>absurd rfl h⟩,⟨none,0,rfl,fun h=>absurd rfl h⟩⟩
theorem LnIs.nil (w:World) (n:Nat):LnIs w n (.slice none 0 0) (.slice none 0 0) (.slice none 0 0) (.slice none 0 0) [] LinesP.none :=
 ⟨⟨none,0,rfl,fun h=>absurd rfl h⟩,⟨none,0,rfl,fun h=>absurd rfl h⟩,rfl,fun q hq=>(by cases hq),⟨none,0,rfl,fun h=>absurd rfl h⟩,⟨none,0,rfl,fun h=>absurd rfl h⟩⟩
theorem SrcLn.nil:SrcLn SourceP.none:=⟨by decide,by decide,by decide,by decide,fun z hz=>(by cases hz)⟩
theorem LnLn.nil:LnLn LinesP.none:=⟨by decide,by decide,by decide,by decide,fun z hz=>(by cases hz)⟩
theorem sameSrc_nil (w:World):Calls Tryz.prog 22 #[.agg nil4,.agg nil4] w fun e w'=>e=.returned (.bool true)∧Below w.heap.size w w':=by
 have h:=sameSrc_any _ _ _ _ _ _ _ _ _ _ _ _ w (SrcIs.nil w _) (SrcIs.nil w _) SrcLn.nil SrcLn.nil;rw [decide_eq_true rfl] at h;exact h
theorem sameLn_nil (w:World):Calls Tryz.prog 23 #[.agg nil4,.agg nil4] w fun e w'=>e=.returned (.bool true)∧Below w.heap.size w w':=by
 have h:=sameLn_any _ _ _ _ _ _ _ _ _ _ _ _ w (LnIs.nil w _) (LnIs.nil w _) LnLn.nil LnLn.nil;rw [decide_eq_true rfl] at h;exact h
structure SW (w:World):Prop where
 tabs:STabs w
 maxl:MaxL w
 errt:ErrTy w
theorem SW.below {w W:World} (h:SW w) (hb:Below w.heap.size w W):SW W:=⟨h.tabs.below hb,h.maxl.below hb,h.errt.below hb⟩
theorem refused_any (s:ByteArray) (n en:Int) (w:World) (hW:SW w) (hs:s.size≤1048576) (hr:srcR s.data.toList=((SourceP.none,LinesP.none),n,en)) (he:en≠0) :
 Calls Tryz.prog 6 #[.string s,.int .i64 n,.int .i64 en] w fun e w'=>e=.returned (.bool true)∧Below w.heap.size w w':=by
 have HP:=hid (sparse_any s w hW.tabs hW.maxl hW.errt hs);have HW:=hid hW;have HR:=hid hr;have HE:=hid he;clear hW hr he hs
 go_enter Tryz.func6,Tryz.ntmps6;go_wp2_with fail
 refine HP.out.mono ?_;rintro e1 w1 ⟨hpp,hb1⟩;unfold ParsePost at hpp;rw [HR.out] at hpp
 rcases hpp with ⟨h0,-⟩|⟨-,v,rfl,hf⟩
 ·exact absurd h0 HE.out
 ·have h0:Below w1.heap.size w1 ((w1.alloc (.cells #[.slice none 0 0,.slice none 0 0,.slice none 0 0,.slice none 0 0] 30)).alloc (.cells #[.slice none 0 0,.slice none 0 0,.slice none 0 0,.slice none 0 0] 35)):=((Below.refl _ _).alloc (Nat.le_refl _) _).alloc (by simp) _
  have b0:Blk ((w1.alloc (.cells #[.slice none 0 0,.slice none 0 0,.slice none 0 0,.slice none 0 0] 30)).alloc (.cells #[.slice none 0 0,.slice none 0 0,.slice none 0 0,.slice none 0 0] 35)) w1.heap.size 30 #[.slice none 0 0,.slice none 0 0,.slice none 0 0,.slice none 0 0]:=(Blk.new' _ _ _ rfl).alloc _;have c0:Blk ((w1.alloc (.cells #[.slice none 0 0,.slice none 0 0,.slice none 0 0,.slice none 0 0] 30)).alloc (.cells #[.slice none 0 0,.slice none 0 0,.slice none 0 0,.slice none 0 0] 35)) (w1.heap.size+1) 35 #[.slice none 0 0,.slice none 0 0,.slice none 0 0,.slice none 0 0]:=Blk.new' _ _ _ (by simp);have HS:=hid (And.intro (b0) (And.intro (c0) (And.intro (hb1.trans (h0.mono hb1.size)) (And.intro (show ErrTy ((w1.alloc (.cells #[.slice none 0 0,.slice none 0 0,.slice none 0 0,.slice none 0 0] 30)).alloc (.cells #[.slice none 0 0,.slice none 0 0,.slice none 0 0,.slice none 0 0] 35)) from (HW.out.below (hb1.trans (h0.mono hb1.size))).errt) (hf.below h0)))));clear b0 c0 h0 hf hb1 HP HR;unfold nil4
  go_upto_region 2 with fail
  generalize ((w1.alloc (.cells #[.slice none 0 0,.slice none 0 0,.slice none 0 0,.slice none 0 0] 30)).alloc (.cells #[.slice none 0 0,.slice none 0 0,.slice none 0 0,.slice none 0 0] 35))=wa at *;generalize w1.heap.size=A at *;have HF:=hid (fault_at v n en wa HS.out.2.2.2.1 HS.out.2.2.2.2 HE.out);go_wp2_with fail
  refine HF.out.mono ?_;rintro e2 w2 ⟨rfl,hb2⟩;have h0:Below w2.heap.size w2 (w2.alloc (.cells #[.int .i64 0,.int .i64 n,.int .i64 en] 78)):=(Below.refl _ _).alloc (Nat.le_refl _) _;have b0:Blk (w2.alloc (.cells #[.int .i64 0,.int .i64 n,.int .i64 en] 78)) w2.heap.size 78 #[.int .i64 0,.int .i64 n,.int .i64 en]:=Blk.new' _ _ _ rfl;have hx:=hb2.trans (h0.mono hb2.size);have HS2:=hid (And.intro (HS.out.1.below hx HS.out.1.lt) (And.intro (HS.out.2.1.below hx HS.out.2.1.lt) (And.intro (HS.out.2.2.1.trans (hx.mono HS.out.2.2.1.size)) (b0))));clear b0 h0 hx hb2 HF HS
  go_upto_region 3 with fail
  generalize (w2.alloc (.cells #[.int .i64 0,.int .i64 n,.int .i64 en] 78))=wb at *;generalize w2.heap.size=C at *;have HSS:=hid (sameSrc_nil);have HSL:=hid (sameLn_nil);unfold nil4 at HSS HSL;have p0:=HS2.out.1.cell_ (i:=0) rfl;have p1:=HS2.out.1.cell_ (i:=1) rfl;have p2:=HS2.out.1.cell_ (i:=2) rfl;have p3:=HS2.out.1.cell_ (i:=3) rfl;go_wp2_with fail
  refine (HSS.out _).mono ?_;rintro e3 w3 ⟨rfl,hb3⟩;have HS3:=hid (And.intro (HS2.out.2.1.below hb3 HS2.out.2.1.lt) (And.intro (HS2.out.2.2.1.trans (hb3.mono HS2.out.2.2.1.size)) (HS2.out.2.2.2.below hb3 HS2.out.2.2.2.lt)));clear hb3 p0 p1 p2 p3 HS2;have p0:=HS3.out.1.cell_ (i:=0) rfl;have p1:=HS3.out.1.cell_ (i:=1) rfl;have p2:=HS3.out.1.cell_ (i:=2) rfl;have p3:=HS3.out.1.cell_ (i:=3) rfl;go_wp2_with fail
  refine (HSL.out _).mono ?_;rintro e4 w4 ⟨rfl,hb4⟩;have HS4:=hid (And.intro (HS3.out.2.1.trans (hb4.mono HS3.out.2.1.size)) (HS3.out.2.2.below hb4 HS3.out.2.2.lt));clear hb4 p0 p1 p2 p3 HS3;have p0:=HS4.out.2.cell_ (i:=0) rfl;have p1:=HS4.out.2.cell_ (i:=1) rfl;have p2:=HS4.out.2.cell_ (i:=2) rfl;go_wp2_with fail
  go_ret
  exact ⟨rfl,HS4.out.1⟩
end Go.Proofs.YtboagmbmmoomiaaGreatDoor
