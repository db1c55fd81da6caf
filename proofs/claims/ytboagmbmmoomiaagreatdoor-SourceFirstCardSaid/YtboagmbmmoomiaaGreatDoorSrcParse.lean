/-
  source.Parse answers as the plain function srcR does.
-/
import Derived.Test.YtboagmbmmoomiaaGreatDoorSrcRead4
import Derived.Laws.CopyOwn
set_option linter.unusedVariables false
set_option linter.unusedSimpArgs false
set_option maxRecDepth 100000
set_option maxHeartbeats 4000000
namespace Go.Proofs.YtboagmbmmoomiaaGreatDoor
open Go.Lib (hid)
open Go.RowKit Go.Shelf
def RG0 (gt:Nat) (S:World→World→Prop) (i:Nat):World→World→Prop:=if i=gt then S else BelowR
section
variable {P:Program}
theorem wp_region_gate0 {id:Nat} {Q:Exit→Act→World→Prop} {a:Act} {w:World} {l:List Oper} (n:Nat) (ds:List (List Nat)) (form:List Form) (C:Bool→World→Prop) (gt:Nat) (S:World→World→Prop) (hm:P.follows .mixedOrders=true) (hB:relB l.toArray n ds=true) (hn:ds.length=n) (hs:form.length=n)
 (hgt:gt<n) (hgg:(l.toArray[gt]?).map (fun o=>o.guard)=some none) (hC0:C false w.drew) (hCb:∀b w w',C b w→Below w.heap.size w w'→C b w') (hCg:∀w w',C false w→S w w'→C true w') (hS:∀w w',S w w'→w.heap.size≤w'.heap.size)
 (hlast:formLastT (RG0 gt S) (fun k i=>Region.waitsFor .any l.toArray k i) 0 form)
 (h:ExSpecs form fun ss=>relWalkB P l.toArray C gt (fun a' w'=>wpList P l.toArray Q (l.drop n) a' w') (RG0 gt S) (l.take n) (ss.zip ds) 0 [] a):(Code.region id l.toArray true).wp P Q a w:=by
 obtain ⟨ss,h1,h2,h3⟩:=exSpecs_ofT form _ 0 hlast h;refine wp_region_relB (C:=C) (gt:=gt) n ds ss hgt hm hB hn (h1.trans hs) hC0 _ (fun i w hi=>?_) (fun o ho=>?_) (fun i w w' h=>?_) (fun i j s dl hi hij hwf hj u w w' hR ho=>?_) (fun i b w w' hi hb hc hR=>?_) (fun w w' hc hR=>?_) h3
 ·unfold RG0
  rw [if_neg hi];exact Below.refl _ _
 ·rw [ho] at hgg
  simpa using hgg
 ·unfold RG0 at h
  split at h
  ·exact hS w w' h
  ·exact h.size
 ·have hj':=(List.getElem?_zip_eq_some.1 hj).1
  have:=h2 j s hj';rw [Nat.zero_add] at this;exact this i hij hwf u w w' hR ho
 ·unfold RG0 at hR
  rw [if_neg hi] at hR;exact hCb b w w' hc hR
 ·have hR2:S w w':=by
   unfold RG0 at hR;rw [if_pos rfl] at hR;exact hR
  exact hCg w w' hc hR2
theorem relAtR_storeRow {R:World→World→Prop} {o:Oper} {a:Act} {w:World} {ty T:TypeId} {x y:Operand} (ho:o.op=.store ty x y) (g:Nat) (old C:Array Value) (hx:a.eval x=.pointer (some ⟨g,0,none⟩)) (hy:a.eval y=.agg C) (hz:(P.info? ty).map (·.size)=some C.size) (hg:Blk w g T old) (hso:old.size=C.size) (h1:C.all (·.oneCell')=true) {p:Value→World→Prop}
 (hR:R w (w.setRow g C)) (hp:p undef (w.setRow g C)):relAtR R P o a w p:=by
 unfold relAtR execOp;simp only [ho,hx,hy,Instr.storeAt,Instr.sureAddr,Sem.run_bind,Sem.run_pure,Result.andThen_ok,run_storeVar_row w g T ty old C hg hz hso h1];exact ⟨hR,hp⟩
end
theorem Blk.row_ {w:World} {g T:Nat} {old C:Array Value} (h:Blk w g T old):Blk (w.setRow g C) g T C:=setRow_heap w g old C T (0,0) h
theorem Blk.rowFar {w:World} {g k T:Nat} {C D:Array Value} (h:Blk w g T D) (hk:g≠k):Blk (w.setRow k C) g T D:=(setRow_other w k g C hk).trans h
theorem own_rowFar {W:World} {B e k n q T:Nat} {v:Value} {xs:List Value} {X C:Array Value} (h:W.ownsRow B e k v n xs) (hq:Blk W q T X) (hne:e≠T):(W.setRow q C).ownsRow B e k v n xs:=by
 refine ⟨h.1,?_⟩
 rcases h.2 with h2|⟨g,cap,cur,e1,hg,hh,rest⟩
 ·exact .inl h2
 ·exact .inr ⟨g,cap,cur,e1,hg,Blk.rowFar (show Blk W g e cur from hh) (fun hx=>hne (by subst hx;exact rows_typ (show Blk W g e cur from hh) hq)),rest⟩
theorem RR.rowFar {B:Nat} {st:RdP} {cur:List ZV} {el:List IV} {v:V8} {W:World} (h:RR B st cur el v W) {q T:Nat} {X C:Array Value} (hq:Blk W q T X) (hT:RTypes T):RR B st cur el v (W.setRow q C):=⟨⟨fun r hr=>own_rowFar (h.rows.own r hr) hq (rd_types st cur el v hT r hr),h.rows.apart⟩,h.zs,h.es⟩
theorem RdG.line {B g:Nat} {n n':Int} {st:RdP} {W:World} (h:RdG B g n st W):RdG B g n' st (W.setCell ⟨g,8,none⟩ (.int .i64 n')):=by
 obtain ⟨h1,cur,el,v,h2,h3⟩:=h;exact ⟨h1,cur,el,v,h2.set_ 8 (.int .i64 n'),h3.far h2 (by decide) _⟩
def nil4:Array Value:=#[.slice none 0 0,.slice none 0 0,.slice none 0 0,.slice none 0 0]
def ParsePost (s:List UInt8) (e:Ending) (w':World):Prop :=
 ((srcR s).2.2=0∧∃B st cur el,∃v:V8,e=.returned (.tuple #[.agg #[v.v1,v.v2,v.v3,v.v4],.agg #[v.u1,v.u2,v.u3,v.u4],.nilIface])∧RR B st cur el v w'∧st.s=(srcR s).1.1∧st.l=(srcR s).1.2) ∨
 ((srcR s).2.2≠0∧∃v,e=.returned (.tuple #[.agg nil4,.agg nil4,v])∧FaultAt w' v (srcR s).2.1 (srcR s).2.2)
theorem ParsePost.bad {s:List UInt8} {w':World} {v:Value} {n en:Int} (h:srcR s=((SourceP.none,LinesP.none),n,en)) (he:en≠0) (hf:FaultAt w' v n en):ParsePost s (.returned (.tuple #[.agg nil4,.agg nil4,v])) w':=.inr ⟨by rw [h];exact he,v,rfl,by rw [h];exact hf⟩
theorem nlR_le {s:List UInt8} {L:List (List UInt8)} {n e:Int} (h:nlR s=(L,n,e)):∀l ∈ L,s.length≤1048576→l.length≤1048576:=fun l hl hs=>by
 unfold nlR at h
 split at h
 ·cases h;cases hl
 ·split at h
  ·cases h;cases hl
  ·cases h
   have h1:=nlParts_le _ l hl;have h2:=trimNl_len s
   omega
theorem store_nil {w w2:World} {gf:Nat} {X:Array Value} (h1:Blk w2 w.heap.size 30 #[.slice none 0 0,.slice none 0 0,.slice none 0 0,.slice none 0 0]) (h2:Blk w2 (w.heap.size+1) 35 #[.slice none 0 0,.slice none 0 0,.slice none 0 0,.slice none 0 0]) (h3:Blk w2 gf 78 X) (hb:Below w.heap.size w w2) :
 Blk ((((((((w2.setCell ⟨w.heap.size,0,none⟩ (.slice none 0 0)).setCell ⟨w.heap.size,1,none⟩ (.slice none 0 0)).setCell ⟨w.heap.size,2,none⟩ (.slice none 0 0)).setCell ⟨w.heap.size,3,none⟩ (.slice none 0 0)).setCell ⟨w.heap.size+1,0,none⟩ (.slice none 0 0)).setCell ⟨w.heap.size+1,1,none⟩ (.slice none 0 0)).setCell ⟨w.heap.size+1,2,none⟩ (.slice none 0 0)).setCell ⟨w.heap.size+1,3,none⟩ (.slice none 0 0)) gf 78 X∧Below w.heap.size w ((((((((w2.setCell ⟨w.heap.size,0,none⟩ (.slice none 0 0)).setCell ⟨w.heap.size,1,none⟩ (.slice none 0 0)).setCell ⟨w.heap.size,2,none⟩ (.slice none 0 0)).setCell ⟨w.heap.size,3,none⟩ (.slice none 0 0)).setCell ⟨w.heap.size+1,0,none⟩ (.slice none 0 0)).setCell ⟨w.heap.size+1,1,none⟩ (.slice none 0 0)).setCell ⟨w.heap.size+1,2,none⟩ (.slice none 0 0)).setCell ⟨w.heap.size+1,3,none⟩ (.slice none 0 0)):=by
 have n1:gf≠w.heap.size:=fun e=>by subst e;exact absurd (rows_typ h3 h1) (by decide)
 have n2:gf≠w.heap.size+1:=fun e=>by subst e;exact absurd (rows_typ h3 h2) (by decide)
 exact ⟨(((((((h3.far n1 _).far n1 _).far n1 _).far n1 _).far n2 _).far n2 _).far n2 _).far n2 _,(((((((hb.setCell (Nat.le_refl _) _).setCell (Nat.le_refl _) _).setCell (Nat.le_refl _) _).setCell (Nat.le_refl _) _).setCell (Nat.le_succ _) _).setCell (Nat.le_succ _) _).setCell (Nat.le_succ _) _).setCell (Nat.le_succ _) _⟩
theorem sparse_any (s:ByteArray) (w:World) (hT:STabs w) (hM:MaxL w) (hE:ErrTy w) (hs:s.size≤1048576) :
 Calls Tryz.prog 20 #[.string s] w fun e w'=>ParsePost s.data.toList e w'∧Below w.heap.size w w':=by
 have HT:=hid hT;have HE:=hid hE;have hb0:Below w.heap.size w ((w.alloc (.cells #[.slice none 0 0,.slice none 0 0,.slice none 0 0,.slice none 0 0] 30)).alloc (.cells #[.slice none 0 0,.slice none 0 0,.slice none 0 0,.slice none 0 0] 35)):=((Below.refl _ _).alloc (Nat.le_refl _) _).alloc (by simp) _;have HR0:=hid (And.intro (show Blk ((w.alloc (.cells #[.slice none 0 0,.slice none 0 0,.slice none 0 0,.slice none 0 0] 30)).alloc (.cells #[.slice none 0 0,.slice none 0 0,.slice none 0 0,.slice none 0 0] 35)) w.heap.size 30 #[.slice none 0 0,.slice none 0 0,.slice none 0 0,.slice none 0 0] from (Blk.new' _ _ _ rfl).alloc _) (And.intro (show Blk ((w.alloc (.cells #[.slice none 0 0,.slice none 0 0,.slice none 0 0,.slice none 0 0] 30)).alloc (.cells #[.slice none 0 0,.slice none 0 0,.slice none 0 0,.slice none 0 0] 35)) (w.heap.size+1) 35 #[.slice none 0 0,.slice none 0 0,.slice none 0 0,.slice none 0 0] from Blk.new' _ _ _ (by simp)) (hb0)));have HL:=hid (lines_any s ((w.alloc (.cells #[.slice none 0 0,.slice none 0 0,.slice none 0 0,.slice none 0 0] 30)).alloc (.cells #[.slice none 0 0,.slice none 0 0,.slice none 0 0,.slice none 0 0] 35)) (hM.below hb0) hs);clear hT hM hE hb0;unfold LinesPost at HL;have hcnt:=nlR_len s.data.toList;obtain ⟨L,ln,le,hnl⟩:∃L ln le,nlR s.data.toList=(L,ln,le):=⟨_,_,_,rfl⟩;have HX:=hid (show srcR s.data.toList=if le≠0 then ((SourceP.none,LinesP.none),(ln,le)) else if (readS RdP.none 1 L).2.2≠0 then ((SourceP.none,LinesP.none),(readS RdP.none 1 L).2) else if (readS RdP.none 1 L).1.op=true then ((SourceP.none,LinesP.none),lastLn (readS RdP.none 1 L).1.l,5) else (((readS RdP.none 1 L).1.s,(readS RdP.none 1 L).1.l),0,0) from by unfold srcR;rw [hnl]);have hLn:L.length≤1048577:=by rw [hnl] at hcnt;have h2:nlCount s.data.toList≤s.data.toList.length:=List.count_le_length;simp at hcnt h2;omega
 have hLz:∀l ∈ L,l.length≤1048576:=fun l hl=>nlR_le hnl l hl (by simpa using hs)
 have HLZ:=hid hLz;rw [hnl] at HL;simp only at HL;clear hnl hcnt hs hLz
 by_cases hle:le=0
 ·subst hle
  have HX0:=hid (HX.out.trans (if_neg (by simp)));clear HX
  go_enter Tryz.func20,Tryz.ntmps20;go_wp2_with fail
  generalize (w.alloc (.cells #[.slice none 0 0,.slice none 0 0,.slice none 0 0,.slice none 0 0] 30)).alloc (.cells #[.slice none 0 0,.slice none 0 0,.slice none 0 0,.slice none 0 0] 35)=w0 at *;refine HL.out.mono ?_;rintro e1 w1 ⟨hlp,hb⟩
  rcases hlp with ⟨_,gl,rfl,hrow⟩|⟨h0,_⟩
  ·obtain ⟨g,hg⟩:∃g,w1.heap.size=g:=⟨_,rfl⟩
   have HB:=hid (fun W (hW:Below g w1 W)=>show Blk W w.heap.size 30 #[.slice none 0 0,.slice none 0 0,.slice none 0 0,.slice none 0 0]∧Blk W (w.heap.size+1) 35 #[.slice none 0 0,.slice none 0 0,.slice none 0 0,.slice none 0 0]∧Below w.heap.size w W∧StrRow W gl 0 L∧STabs W∧ErrTy W from by
    rw [←hg] at hW;have hb2:Below w.heap.size w w1:=HR0.out.2.2.trans (hb.mono HR0.out.2.2.size);have hb3:Below w.heap.size w W:=hb2.trans (hW.mono hb2.size);have hb4:=hb.trans (hW.mono hb.size);exact ⟨HR0.out.1.below hb4 HR0.out.1.lt,HR0.out.2.1.below hb4 HR0.out.2.1.lt,hb3,hrow.below hW,HT.out.below hb3,HE.out.below hb3⟩)
   have HG:=hid hg;clear hb hrow HR0 HL HT HE
   go_upto_region 5 with fail
   have ha:Below g w1 (w1.alloc (.cells #[.slice none 0 0,.slice none 0 0,.slice none 0 0,.slice none 0 0,.slice none 0 0,.slice none 0 0,.slice none 0 0,.slice none 0 0,.int .i64 0,.bool false] 106)):=(Below.refl _ _).alloc (by rw [hg];exact Nat.le_refl _) _;have H2:=hid (And.intro (show RdG g g 0 RdP.none (w1.alloc (.cells #[.slice none 0 0,.slice none 0 0,.slice none 0 0,.slice none 0 0,.slice none 0 0,.slice none 0 0,.slice none 0 0,.slice none 0 0,.int .i64 0,.bool false] 106)) from ⟨Nat.le_refl _,[],[],V8.none,Blk.new' _ _ _ hg.symm,RR.none_ _ _⟩) (ha));clear ha hg;generalize w1.alloc (.cells #[.slice none 0 0,.slice none 0 0,.slice none 0 0,.slice none 0 0,.slice none 0 0,.slice none 0 0,.slice none 0 0,.slice none 0 0,.int .i64 0,.bool false] 106)=w2 at *;go_wp2_with fail
   go_loopw [31] (fun iv wr=>∃(k:Nat) (st:RdP),k≤L.length∧iv=.int .i64 (k:Int)∧Hid (RdG g g (k:Int) st wr∧RdOk st∧readS RdP.none 1 L=readS st ((k:Int)+1) (L.drop k)∧Below g w1 wr)) (fun iv _=>L.length-(intOf iv).toNat)
   case atStart=>exact ⟨0,RdP.none,Nat.zero_le _,rfl,hid ⟨H2.out.1,RdOk.none,rfl,H2.out.2⟩⟩
   case round =>
    obtain ⟨k,st,hk,rfl,HH⟩:=hrel
    by_cases hlt:k<L.length
    ·obtain ⟨x,hx⟩:∃x,L[k]? = some x:=⟨_,List.getElem?_eq_getElem hlt⟩
     have ck:wr.cell? ⟨gl,k,none⟩=some (.string ⟨x.toArray⟩):=by have:=(HB.out _ HH.out.2.2.2).2.2.2.1.at_ k x hx;rwa [Nat.zero_add] at this
     have hd:decide ((k:Int)<(L.length:Int))=true:=by simp;omega
     have hd2:decide (k<L.length)=true:=by simp [hlt]
     obtain ⟨hBg,cur,el,v,hblk,hrr⟩:=HH.out.1;have z8:=hblk.cell_ (i:=8) rfl;have f8:=hblk.frozen 8;have hxz:x.length≤1048576:=HLZ.out x (List.mem_of_getElem? hx);have hdr:L.drop k=x::L.drop (k+1):=by rw [List.drop_eq_getElem_cons hlt];rw [show L[k]=x from (List.getElem?_eq_some_iff.1 hx).2]
     have HS3:=hid (show RdG g g ((k:Int)+1) st (wr.setCell ⟨g,8,none⟩ (.int .i64 ((k:Int)+1)))∧Below g w1 (wr.setCell ⟨g,8,none⟩ (.int .i64 ((k:Int)+1))) from ⟨HH.out.1.line,HH.out.2.2.2.setCell (Nat.le_refl _) _⟩);have HOK:=hid HH.out.2.1;obtain ⟨st2,le2,hls⟩:∃st2 le2,lineS st ((k:Int)+1) x=(st2,le2):=⟨_,_,rfl⟩;have HRS:=hid (show readS RdP.none 1 L=if le2≠0 then (st,(k:Int)+1,le2) else readS st2 ((k:Int)+1+1) (L.drop (k+1)) from by rw [HH.out.2.2.1,hdr,readS,hls]);have HOK2:=hid (show le2=0→RdOk st2 from fun h=>by have:=HOK.out.line (n:=(k:Int)+1) (x:=x) (by rw [hls];exact h);rw [hls] at this;exact this);clear hblk hrr hBg hdr HH
     go_upto_region 9 with fail
     clear ck z8 f8;generalize wr.setCell ⟨g,8,none⟩ _=w3 at *;have HRD:=hid (sread_any g g st ((k:Int)+1) ⟨x.toArray⟩ w3 HS3.out.1 (fun W hW=>(HB.out W (by rcases hW with hW|hW;exact HS3.out.2.trans (hW.mono HS3.out.1.base);exact HS3.out.2.trans hW)).2.2.2.2.1) HOK.out (by simpa [ByteArray.size] using hxz));rw [show (⟨x.toArray⟩:ByteArray).data.toList=x from by simp,hls] at HRD;clear hx hls
     by_cases hl2:le2=0
     ·subst hl2
      rw [if_neg (by simp)] at HRS;rw [show errV 0=.nilIface from rfl] at HRD;go_wp2_with fail
      refine HRD.out.mono ?_;rintro e4 w4 ⟨rfl,hz,-,hbl⟩;have HN:=hid (show RdG g g ((k+1:Nat):Int) st2 w4∧RdOk st2∧readS RdP.none 1 L=readS st2 (((k+1:Nat):Int)+1) (L.drop (k+1))∧Below g w1 w4 from ⟨by have:=hz trivial;rwa [Int.natCast_add],HOK2.out trivial,by rw [Int.natCast_add];exact HRS.out,HS3.out.2.trans hbl⟩);clear hz hbl HS3 HRD HRS HOK HOK2;go_wp2_with fail
      go_roundw
      case rel=>exact ⟨k+1,st2,by omega,by go_num,HN⟩
      case measure=>simp [intOf];omega
     ·rw [if_pos hl2] at HRS
      rw [show errV le2=.iface 38 (.int .i64 le2) from if_neg hl2] at HRD;have HL2:=hid hl2;have HF:=hid (show srcR s.data.toList=((SourceP.none,LinesP.none),((k:Int)+1),le2) from HX0.out.trans (by rw [HRS.out];exact if_pos hl2));clear hl2 HX0;go_wp2_with fail
      refine HRD.out.mono ?_;rintro e4 w4 ⟨rfl,-,⟨st3,-,cur3,el3,v3,hblk3,-⟩,hbl⟩;have z8:=hblk3.cell_ (i:=8) rfl;have HR6:=hid (HB.out w4 (HS3.out.2.trans hbl));clear hblk3 hbl HS3 HRD HRS HOK HOK2;go_wp2_with fail
      refine (at_any ((k:Int)+1) le2 _ HR6.out.2.2.2.2.2).mono ?_;rintro e7 w7 ⟨⟨v,rfl,hf⟩,hb7⟩;obtain ⟨gf,rfl,hgf⟩:=hf;have HR2:=hid (And.intro (HR6.out.1.below hb7 HR6.out.1.lt) (And.intro (HR6.out.2.1.below hb7 HR6.out.2.1.lt) (And.intro (HR6.out.2.2.1.trans (hb7.mono HR6.out.2.2.1.size)) (hgf))));clear hb7 hgf;have r0:=HR2.out.1.cell_ (i:=0) (u:=.slice none 0 0) rfl;have r1:=HR2.out.1.cell_ (i:=1) (u:=.slice none 0 0) rfl;have r2:=HR2.out.1.cell_ (i:=2) (u:=.slice none 0 0) rfl;have r3:=HR2.out.1.cell_ (i:=3) (u:=.slice none 0 0) rfl;have rf0:=HR2.out.1.frozen 0;have rf1:=HR2.out.1.frozen 1;have rf2:=HR2.out.1.frozen 2;have rf3:=HR2.out.1.frozen 3;have q0:=HR2.out.2.1.cell_ (i:=0) (u:=.slice none 0 0) rfl;have q1:=HR2.out.2.1.cell_ (i:=1) (u:=.slice none 0 0) rfl;have q2:=HR2.out.2.1.cell_ (i:=2) (u:=.slice none 0 0) rfl;have q3:=HR2.out.2.1.cell_ (i:=3) (u:=.slice none 0 0) rfl;have qf0:=HR2.out.2.1.frozen 0;have qf1:=HR2.out.2.1.frozen 1;have qf2:=HR2.out.2.1.frozen 2;have qf3:=HR2.out.2.1.frozen 3;go_wp2_with fail
      have hst:=store_nil HR2.out.1 HR2.out.2.1 HR2.out.2.2.2 HR2.out.2.2.1;refine bodyPost_ret (v:=.tuple #[.agg #[.slice none 0 0,.slice none 0 0,.slice none 0 0,.slice none 0 0],.agg #[.slice none 0 0,.slice none 0 0,.slice none 0 0,.slice none 0 0],.iface 108 (.pointer (some ⟨gf,0,none⟩))]) (by simp [results,Tryz.results20,go_sem,r0,q0,rf0,qf0,r1,q1,rf1,qf1,r2,q2,rf2,qf2,r3,q3,rf3,qf3]) rfl ⟨ParsePost.bad HF.out HL2.out ⟨gf,rfl,hst.1⟩,hst.2⟩
    ·obtain rfl:k=L.length:=by omega
     have hd:decide ((L.length:Int)<(L.length:Int))=false:=by simp
     have hd2:decide (L.length<L.length)=false:=by simp
     have HRS:=hid (show readS RdP.none 1 L=(st,0,0) from by rw [HH.out.2.2.1,List.drop_length];rfl);have HF1:=hid (show srcR s.data.toList=if st.op=true then ((SourceP.none,LinesP.none),lastLn st.l,5) else ((st.s,st.l),0,0) from HX0.out.trans (by rw [HRS.out];rfl));clear HX0 HRS hlt hk;obtain ⟨hBg,cur,el,⟨v1,v2,v3,v4,u1,u2,u3,u4⟩,hblk,hrr⟩:=HH.out.1;have z9:=hblk.cell_ (i:=9) rfl;have HK:=hid (And.intro hblk (And.intro hrr (And.intro HH.out.2.2.2 HH.out.2.1)));obtain ⟨ob,hob⟩:∃ob,st.op=ob:=⟨_,rfl⟩;rw [hob] at z9;have HOB:=hid hob;clear hob hblk hrr hBg HH
     cases ob with
     | true =>
      have HF:=hid (show srcR s.data.toList=((SourceP.none,LinesP.none),lastLn st.l,5) from HF1.out.trans (if_pos HOB.out));obtain ⟨ll,hll,hl1,hlx⟩:=HK.out.2.2.2.last HOB.out;have hmem:ll ∈ st.l.eras:=List.mem_of_getElem? hll;have hlz:=HK.out.2.2.2.small.lines ll hmem;have hez:=HK.out.2.2.2.small.zones.2;have hel:el.length=st.l.eras.length:=by rw [←HK.out.2.1.es,List.length_map]
      rw [←hel] at hll hez;rw [←HK.out.2.1.es,List.getElem?_map] at hll;obtain ⟨⟨qv,ql⟩,hq,hqe⟩:=Option.map_eq_some_iff.1 hll;replace hqe:ql=ll:=hqe;subst hqe;obtain ⟨j,hj⟩:∃j,el.length=j+1:=⟨el.length-1,by have:=(List.getElem?_eq_some_iff.1 hq).1;omega⟩;obtain ⟨m,hm⟩:∃m,ql.length=m+1:=⟨ql.length-1,by omega⟩;rw [show el.length-1=j by omega] at hq;rw [show ql.length-1=m by omega] at hlx;obtain ⟨g5,c5,h5e⟩:=own_some (HK.out.2.1.rows.own _ (List.mem_of_getElem? (i:=5) rfl)) (by show el.length≠0;omega);replace h5e:u2=.slice (some ⟨g5,0,none⟩) el.length c5:=h5e;subst h5e;obtain ⟨g6,c6,h6e⟩:=own_some (HK.out.2.1.io (List.mem_of_getElem? hq)) (by show ql.length≠0;omega);replace h6e:qv=.slice (some ⟨g6,0,none⟩) ql.length c6:=h6e;subst h6e;have hy5:wr.cell? ⟨g5,j,none⟩=some (.slice (some ⟨g6,0,none⟩) ql.length c6):=row_cell (HK.out.2.1.rows.own _ (List.mem_of_getElem? (i:=5) rfl)) rfl (by have h:=flatC_at (enc:=encW) (fun x=>rfl) el j 0 _ hq (by decide);rw [Nat.mul_one,Nat.add_zero] at h;exact h);have hy6:wr.cell? ⟨g6,m,none⟩=some (.int .i64 (lastLn st.l)):=row_cell (HK.out.2.1.io (List.mem_of_getElem? hq)) rfl (by have h:=flatC_at (enc:=encI) (fun x=>rfl) ql m 0 _ hlx (by decide);rw [Nat.mul_one,Nat.add_zero] at h;exact h);have HZ:=hid (fun W (hW:Below wr.heap.size wr W)=>show W.cell? ⟨g,5,none⟩=some (.slice (some ⟨g5,0,none⟩) el.length c5)∧W.cell? ⟨g5,j,none⟩=some (.slice (some ⟨g6,0,none⟩) ql.length c6)∧W.cell? ⟨g6,m,none⟩=some (.int .i64 (lastLn st.l)) from ⟨(HK.out.1.below hW HK.out.1.lt).cell_ (i:=5) rfl,(hW.cell (block_lt_of_cell hy5)).trans hy5,(hW.cell (block_lt_of_cell hy6)).trans hy6⟩);have HR9:=hid (fun W (hW:Below wr.heap.size wr W)=>HB.out W (HK.out.2.2.1.trans (hW.mono (Nat.le_of_lt HK.out.1.lt))));have hcl:(el.length:Int)-1=(j:Int):=by omega
      have hjc:j<el.length:=by omega
      have hjb:j≤501:=by omega
      have hcm:(ql.length:Int)-1=(m:Int):=by omega
      have hmc:m<ql.length:=by omega
      have hmb:m≤61:=by omega
      have hwj:IntKind.i64.wrap (j:Int)=(j:Int):=IntWalk.i64_in _ (by omega);have hwm:IntKind.i64.wrap (m:Int)=(m:Int):=IntWalk.i64_in _ (by omega);clear HK hq hlx hll hy5 hy6 hl1 hmem hj hm HOB hel hez hlz HB HF1;go_wp2_with fail
      refine wp_region_vals 14 (fun W=>Below wr.heap.size wr W) (by kernel_rfl) (by kernel_rfl) rfl ((Below.refl _ _).drew) (fun W W2 h hb=>h.trans (hb.mono h.size)) ?_
      iterate 14
       apply exV_ex rfl ?_ (fun K hK=>?_)
       any_goals
        intro W hC;obtain ⟨y4,y5,y6⟩:=HZ.out W hC;go_simp
        all_goals first|exact ⟨Below.refl _ _,rfl⟩|exact Below.refl _ _
       any_goals
        revert hK
        intro hK;go_simp;refine hK _ ?_;clear hK K
      refine exV_end fun W hC=>?_
      have HR6:=hid (HR9.out W hC);obtain ⟨-,-,y6⟩:=HZ.out W hC;clear HZ HR9 z9;go_wp2_with fail
      refine (at_any (lastLn st.l) 5 _ HR6.out.2.2.2.2.2).mono ?_;rintro e7 w7 ⟨⟨v,rfl,hf⟩,hb7⟩;obtain ⟨gf,rfl,hgf⟩:=hf;have HR2:=hid (And.intro (HR6.out.1.below hb7 HR6.out.1.lt) (And.intro (HR6.out.2.1.below hb7 HR6.out.2.1.lt) (And.intro (HR6.out.2.2.1.trans (hb7.mono HR6.out.2.2.1.size)) (hgf))));clear hb7 hgf;have r0:=HR2.out.1.cell_ (i:=0) (u:=.slice none 0 0) rfl;have r1:=HR2.out.1.cell_ (i:=1) (u:=.slice none 0 0) rfl;have r2:=HR2.out.1.cell_ (i:=2) (u:=.slice none 0 0) rfl;have r3:=HR2.out.1.cell_ (i:=3) (u:=.slice none 0 0) rfl;have rf0:=HR2.out.1.frozen 0;have rf1:=HR2.out.1.frozen 1;have rf2:=HR2.out.1.frozen 2;have rf3:=HR2.out.1.frozen 3;have q0:=HR2.out.2.1.cell_ (i:=0) (u:=.slice none 0 0) rfl;have q1:=HR2.out.2.1.cell_ (i:=1) (u:=.slice none 0 0) rfl;have q2:=HR2.out.2.1.cell_ (i:=2) (u:=.slice none 0 0) rfl;have q3:=HR2.out.2.1.cell_ (i:=3) (u:=.slice none 0 0) rfl;have qf0:=HR2.out.2.1.frozen 0;have qf1:=HR2.out.2.1.frozen 1;have qf2:=HR2.out.2.1.frozen 2;have qf3:=HR2.out.2.1.frozen 3;go_wp2_with fail
      have hst:=store_nil HR2.out.1 HR2.out.2.1 HR2.out.2.2.2 HR2.out.2.2.1;refine bodyPost_ret (v:=.tuple #[.agg #[.slice none 0 0,.slice none 0 0,.slice none 0 0,.slice none 0 0],.agg #[.slice none 0 0,.slice none 0 0,.slice none 0 0,.slice none 0 0],.iface 108 (.pointer (some ⟨gf,0,none⟩))]) (by simp [results,Tryz.results20,go_sem,r0,q0,rf0,qf0,r1,q1,rf1,qf1,r2,q2,rf2,qf2,r3,q3,rf3,qf3]) rfl ⟨ParsePost.bad HF.out (by decide) ⟨gf,rfl,hst.1⟩,hst.2⟩
     | false =>
      have HF:=hid (show srcR s.data.toList=((st.s,st.l),0,0) from HF1.out.trans (if_neg (by rw [HOB.out];decide)));obtain ⟨p0,d0,e0⟩:=own_form (HK.out.2.1.rows.own _ (List.mem_of_getElem? (i:=0) rfl));replace e0:v1=.slice p0 st.s.rules.length d0:=e0;subst e0;obtain ⟨p1,d1,e1⟩:=own_form (HK.out.2.1.rows.own _ (List.mem_of_getElem? (i:=1) rfl));replace e1:v2=.slice p1 cur.length d1:=e1;subst e1;obtain ⟨p2,d2,e2⟩:=own_form (HK.out.2.1.rows.own _ (List.mem_of_getElem? (i:=2) rfl));replace e2:v3=.slice p2 st.s.links.length d2:=e2;subst e2;obtain ⟨p3,d3,e3⟩:=own_form (HK.out.2.1.rows.own _ (List.mem_of_getElem? (i:=3) rfl));replace e3:v4=.slice p3 st.s.shifts.length d3:=e3;subst e3;obtain ⟨p4,d4,e4⟩:=own_form (HK.out.2.1.rows.own _ (List.mem_of_getElem? (i:=4) rfl));replace e4:u1=.slice p4 st.l.rules.length d4:=e4;subst e4;obtain ⟨p5,d5,e5⟩:=own_form (HK.out.2.1.rows.own _ (List.mem_of_getElem? (i:=5) rfl));replace e5:u2=.slice p5 el.length d5:=e5;subst e5;obtain ⟨p6,d6,e6⟩:=own_form (HK.out.2.1.rows.own _ (List.mem_of_getElem? (i:=6) rfl));replace e6:u3=.slice p6 st.l.links.length d6:=e6;subst e6;obtain ⟨p7,d7,e7⟩:=own_form (HK.out.2.1.rows.own _ (List.mem_of_getElem? (i:=7) rfl));replace e7:u4=.slice p7 st.l.shifts.length d7:=e7;subst e7;clear HF1 HOB;go_wp2_with fail
      clear z9;have HC0:=hid (show (fun b W=>(b=false→Blk W w.heap.size 30 #[.slice none 0 0,.slice none 0 0,.slice none 0 0,.slice none 0 0])∧(b=true→Blk W w.heap.size 30 #[.slice p0 st.s.rules.length d0,.slice p1 cur.length d1,.slice p2 st.s.links.length d2,.slice p3 st.s.shifts.length d3])∧Blk W g 106 #[.slice p0 st.s.rules.length d0,.slice p1 cur.length d1,.slice p2 st.s.links.length d2,.slice p3 st.s.shifts.length d3,.slice p4 st.l.rules.length d4,.slice p5 el.length d5,.slice p6 st.l.links.length d6,.slice p7 st.l.shifts.length d7,.int .i64 (L.length:Int),.bool st.op]∧Blk W (w.heap.size+1) 35 #[.slice none 0 0,.slice none 0 0,.slice none 0 0,.slice none 0 0]∧RR g st cur el ⟨.slice p0 st.s.rules.length d0,.slice p1 cur.length d1,.slice p2 st.s.links.length d2,.slice p3 st.s.shifts.length d3,.slice p4 st.l.rules.length d4,.slice p5 el.length d5,.slice p6 st.l.links.length d6,.slice p7 st.l.shifts.length d7⟩ W∧Below w.heap.size w W) false wr from ⟨fun _=>(HB.out wr HK.out.2.2.1).1,fun e=>(by cases e),HK.out.1,(HB.out wr HK.out.2.2.1).2.1,HK.out.2.1,(HB.out wr HK.out.2.2.1).2.2.1⟩);have HCb:=hid (show ∀b W W2,(fun b W=>(b=false→Blk W w.heap.size 30 #[.slice none 0 0,.slice none 0 0,.slice none 0 0,.slice none 0 0])∧(b=true→Blk W w.heap.size 30 #[.slice p0 st.s.rules.length d0,.slice p1 cur.length d1,.slice p2 st.s.links.length d2,.slice p3 st.s.shifts.length d3])∧Blk W g 106 #[.slice p0 st.s.rules.length d0,.slice p1 cur.length d1,.slice p2 st.s.links.length d2,.slice p3 st.s.shifts.length d3,.slice p4 st.l.rules.length d4,.slice p5 el.length d5,.slice p6 st.l.links.length d6,.slice p7 st.l.shifts.length d7,.int .i64 (L.length:Int),.bool st.op]∧Blk W (w.heap.size+1) 35 #[.slice none 0 0,.slice none 0 0,.slice none 0 0,.slice none 0 0]∧RR g st cur el ⟨.slice p0 st.s.rules.length d0,.slice p1 cur.length d1,.slice p2 st.s.links.length d2,.slice p3 st.s.shifts.length d3,.slice p4 st.l.rules.length d4,.slice p5 el.length d5,.slice p6 st.l.links.length d6,.slice p7 st.l.shifts.length d7⟩ W∧Below w.heap.size w W) b W→Below W.heap.size W W2→(fun b W=>(b=false→Blk W w.heap.size 30 #[.slice none 0 0,.slice none 0 0,.slice none 0 0,.slice none 0 0])∧(b=true→Blk W w.heap.size 30 #[.slice p0 st.s.rules.length d0,.slice p1 cur.length d1,.slice p2 st.s.links.length d2,.slice p3 st.s.shifts.length d3])∧Blk W g 106 #[.slice p0 st.s.rules.length d0,.slice p1 cur.length d1,.slice p2 st.s.links.length d2,.slice p3 st.s.shifts.length d3,.slice p4 st.l.rules.length d4,.slice p5 el.length d5,.slice p6 st.l.links.length d6,.slice p7 st.l.shifts.length d7,.int .i64 (L.length:Int),.bool st.op]∧Blk W (w.heap.size+1) 35 #[.slice none 0 0,.slice none 0 0,.slice none 0 0,.slice none 0 0]∧RR g st cur el ⟨.slice p0 st.s.rules.length d0,.slice p1 cur.length d1,.slice p2 st.s.links.length d2,.slice p3 st.s.shifts.length d3,.slice p4 st.l.rules.length d4,.slice p5 el.length d5,.slice p6 st.l.links.length d6,.slice p7 st.l.shifts.length d7⟩ W∧Below w.heap.size w W) b W2 from fun b W W2 h hb=>⟨fun e=>(h.1 e).below hb (h.1 e).lt,fun e=>(h.2.1 e).below hb (h.2.1 e).lt,h.2.2.1.below hb h.2.2.1.lt,h.2.2.2.1.below hb h.2.2.2.1.lt,h.2.2.2.2.1.below hb,h.2.2.2.2.2.trans (hb.mono h.2.2.2.2.2.size)⟩)
      have HCg:=hid (show ∀W W2,(fun b W=>(b=false→Blk W w.heap.size 30 #[.slice none 0 0,.slice none 0 0,.slice none 0 0,.slice none 0 0])∧(b=true→Blk W w.heap.size 30 #[.slice p0 st.s.rules.length d0,.slice p1 cur.length d1,.slice p2 st.s.links.length d2,.slice p3 st.s.shifts.length d3])∧Blk W g 106 #[.slice p0 st.s.rules.length d0,.slice p1 cur.length d1,.slice p2 st.s.links.length d2,.slice p3 st.s.shifts.length d3,.slice p4 st.l.rules.length d4,.slice p5 el.length d5,.slice p6 st.l.links.length d6,.slice p7 st.l.shifts.length d7,.int .i64 (L.length:Int),.bool st.op]∧Blk W (w.heap.size+1) 35 #[.slice none 0 0,.slice none 0 0,.slice none 0 0,.slice none 0 0]∧RR g st cur el ⟨.slice p0 st.s.rules.length d0,.slice p1 cur.length d1,.slice p2 st.s.links.length d2,.slice p3 st.s.shifts.length d3,.slice p4 st.l.rules.length d4,.slice p5 el.length d5,.slice p6 st.l.links.length d6,.slice p7 st.l.shifts.length d7⟩ W∧Below w.heap.size w W) false W→(fun W W2=>W2=W.setRow w.heap.size #[.slice p0 st.s.rules.length d0,.slice p1 cur.length d1,.slice p2 st.s.links.length d2,.slice p3 st.s.shifts.length d3]) W W2→(fun b W=>(b=false→Blk W w.heap.size 30 #[.slice none 0 0,.slice none 0 0,.slice none 0 0,.slice none 0 0])∧(b=true→Blk W w.heap.size 30 #[.slice p0 st.s.rules.length d0,.slice p1 cur.length d1,.slice p2 st.s.links.length d2,.slice p3 st.s.shifts.length d3])∧Blk W g 106 #[.slice p0 st.s.rules.length d0,.slice p1 cur.length d1,.slice p2 st.s.links.length d2,.slice p3 st.s.shifts.length d3,.slice p4 st.l.rules.length d4,.slice p5 el.length d5,.slice p6 st.l.links.length d6,.slice p7 st.l.shifts.length d7,.int .i64 (L.length:Int),.bool st.op]∧Blk W (w.heap.size+1) 35 #[.slice none 0 0,.slice none 0 0,.slice none 0 0,.slice none 0 0]∧RR g st cur el ⟨.slice p0 st.s.rules.length d0,.slice p1 cur.length d1,.slice p2 st.s.links.length d2,.slice p3 st.s.shifts.length d3,.slice p4 st.l.rules.length d4,.slice p5 el.length d5,.slice p6 st.l.links.length d6,.slice p7 st.l.shifts.length d7⟩ W∧Below w.heap.size w W) true W2 from fun W W2 h hs=>by
       replace hs:W2=W.setRow w.heap.size #[.slice p0 st.s.rules.length d0,.slice p1 cur.length d1,.slice p2 st.s.links.length d2,.slice p3 st.s.shifts.length d3]:=hs;subst hs;exact ⟨fun e=>(by cases e),fun _=>(h.1 rfl).row_,h.2.2.1.rowFar (fun e=>absurd (rows_typ (by rw [e] at h;exact h.2.2.1) (h.1 rfl)) (by decide)),h.2.2.2.1.rowFar (by omega),h.2.2.2.2.1.rowFar (h.1 rfl) (by decide),below_setRow h.2.2.2.2.2 (Nat.le_refl _) _⟩)
      clear HB HK;refine wp_region_gate0 9 [[],[],[],[],[],[],[],[],[]] [Form.val,Form.val,Form.val,Form.val,Form.val,Form.val,Form.val,Form.val,Form.val] (fun b W=>(b=false→Blk W w.heap.size 30 #[.slice none 0 0,.slice none 0 0,.slice none 0 0,.slice none 0 0])∧(b=true→Blk W w.heap.size 30 #[.slice p0 st.s.rules.length d0,.slice p1 cur.length d1,.slice p2 st.s.links.length d2,.slice p3 st.s.shifts.length d3])∧Blk W g 106 #[.slice p0 st.s.rules.length d0,.slice p1 cur.length d1,.slice p2 st.s.links.length d2,.slice p3 st.s.shifts.length d3,.slice p4 st.l.rules.length d4,.slice p5 el.length d5,.slice p6 st.l.links.length d6,.slice p7 st.l.shifts.length d7,.int .i64 (L.length:Int),.bool st.op]∧Blk W (w.heap.size+1) 35 #[.slice none 0 0,.slice none 0 0,.slice none 0 0,.slice none 0 0]∧RR g st cur el ⟨.slice p0 st.s.rules.length d0,.slice p1 cur.length d1,.slice p2 st.s.links.length d2,.slice p3 st.s.shifts.length d3,.slice p4 st.l.rules.length d4,.slice p5 el.length d5,.slice p6 st.l.links.length d6,.slice p7 st.l.shifts.length d7⟩ W∧Below w.heap.size w W) 8 (fun W W2=>W2=W.setRow w.heap.size #[.slice p0 st.s.rules.length d0,.slice p1 cur.length d1,.slice p2 st.s.links.length d2,.slice p3 st.s.shifts.length d3]) (by kernel_rfl) (by kernel_rfl) rfl rfl (by decide) (by kernel_rfl) (HCb.out _ _ _ HC0.out (Below.refl _ _).drew) HCb.out HCg.out (fun W W2 hs=>by rw [show W2=W.setRow w.heap.size #[.slice p0 st.s.rules.length d0,.slice p1 cur.length d1,.slice p2 st.s.links.length d2,.slice p3 st.s.shifts.length d3] from hs];simp) trivial ?_
      repeat (first|apply exSpec_rel|apply exSpec_new|apply exSpec_val)
      apply relWalkB_ex rfl rfl ?o0 (fun K hK=>?n0)
      case o0 =>
       intro b W hb hC hF;go_simp
       all_goals first|exact ⟨Below.refl _ _,rfl⟩|exact Below.refl _ _
      case' n0 =>
       go_simp;refine hK _ ?_;clear hK K
      apply relWalkB_ex rfl rfl ?o1 (fun K hK=>?n1)
      case o1 =>
       intro b W hb hC hF;go_simp
       all_goals first|exact ⟨Below.refl _ _,rfl⟩|exact Below.refl _ _
      case' n1 =>
       go_simp;refine hK _ ?_;clear hK K
      apply relWalkB_ex rfl rfl ?o2 (fun K hK=>?n2)
      case o2 =>
       intro b W hb hC hF;go_simp
       all_goals first|exact ⟨Below.refl _ _,rfl⟩|exact Below.refl _ _
      case' n2 =>
       go_simp;refine hK _ ?_;clear hK K
      apply relWalkB_ex rfl rfl ?o3 (fun K hK=>?n3)
      case o3 =>
       intro b W hb hC hF;exact relAt_load_arr 30 (.tmp 85) rfl g 0 rfl #[.slice p0 st.s.rules.length d0,.slice p1 cur.length d1,.slice p2 st.s.links.length d2,.slice p3 st.s.shifts.length d3] _ (fun q v hv=>by match q,hv with | 0,hv=>cases hv;exact hC.2.2.1.cell_ rfl | 1,hv=>cases hv;exact hC.2.2.1.cell_ rfl | 2,hv=>cases hv;exact hC.2.2.1.cell_ rfl | 3,hv=>cases hv;exact hC.2.2.1.cell_ rfl | q+4,hv=>simp at hv) Tryz.underlying30 rfl (by kernel_rfl)
      case' n3 =>
       go_simp;refine hK _ ?_;clear hK K
      apply relWalkB_ex rfl rfl ?o4 (fun K hK=>?n4)
      case o4 =>
       intro b W hb hC hF;go_simp
       all_goals first|exact ⟨Below.refl _ _,rfl⟩|exact Below.refl _ _
      case' n4 =>
       go_simp;refine hK _ ?_;clear hK K
      apply relWalkB_ex rfl rfl ?o5 (fun K hK=>?n5)
      case o5 =>
       intro b W hb hC hF;go_simp
       all_goals first|exact ⟨Below.refl _ _,rfl⟩|exact Below.refl _ _
      case' n5 =>
       go_simp;refine hK _ ?_;clear hK K
      apply relWalkB_ex rfl rfl ?o6 (fun K hK=>?n6)
      case o6 =>
       intro b W hb hC hF;go_simp
       all_goals first|exact ⟨Below.refl _ _,rfl⟩|exact Below.refl _ _
      case' n6 =>
       go_simp;refine hK _ ?_;clear hK K
      apply relWalkB_ex rfl rfl ?o7 (fun K hK=>?n7)
      case o7 =>
       intro b W hb hC hF;exact relAt_load_arr 35 (.tmp 89) rfl g 4 rfl #[.slice p4 st.l.rules.length d4,.slice p5 el.length d5,.slice p6 st.l.links.length d6,.slice p7 st.l.shifts.length d7] _ (fun q v hv=>by match q,hv with | 0,hv=>cases hv;exact hC.2.2.1.cell_ rfl | 1,hv=>cases hv;exact hC.2.2.1.cell_ rfl | 2,hv=>cases hv;exact hC.2.2.1.cell_ rfl | 3,hv=>cases hv;exact hC.2.2.1.cell_ rfl | q+4,hv=>simp at hv) Tryz.underlying35 rfl (by kernel_rfl)
      case' n7 =>
       go_simp;refine hK _ ?_;clear hK K
      apply relWalkB_gate rfl rfl rfl ?o8 (fun K hK=>?n8)
      case o8 =>
       intro W hC hF;exact relAtR_storeRow rfl w.heap.size #[.slice none 0 0,.slice none 0 0,.slice none 0 0,.slice none 0 0] #[.slice p0 st.s.rules.length d0,.slice p1 cur.length d1,.slice p2 st.s.links.length d2,.slice p3 st.s.shifts.length d3] rfl rfl (by kernel_rfl) (hC.1 rfl) rfl (by simp [Value.oneCell']) rfl rfl
      case' n8 =>
       go_simp;refine hK _ ?_;clear hK K
      apply relWalkB_end
      intro W hC hF;clear hF;have HE:=hid (And.intro (show Blk W w.heap.size 30 #[.slice p0 st.s.rules.length d0,.slice p1 cur.length d1,.slice p2 st.s.links.length d2,.slice p3 st.s.shifts.length d3] from hC.2.1 rfl) (And.intro (hC.2.2.2.1) (And.intro (hC.2.2.2.2.1) (hC.2.2.2.2.2))));clear hC HC0 HCb HCg;have q0:=HE.out.2.1.cell_ (i:=0) (u:=.slice none 0 0) rfl;have q1:=HE.out.2.1.cell_ (i:=1) (u:=.slice none 0 0) rfl;have q2:=HE.out.2.1.cell_ (i:=2) (u:=.slice none 0 0) rfl;have q3:=HE.out.2.1.cell_ (i:=3) (u:=.slice none 0 0) rfl;have qf0:=HE.out.2.1.frozen 0;have qf1:=HE.out.2.1.frozen 1;have qf2:=HE.out.2.1.frozen 2;have qf3:=HE.out.2.1.frozen 3;go_wp2_with fail
      clear q0 q1 q2 q3 qf0 qf1 qf2 qf3;have b0:=HE.out.2.1;have r0:=HE.out.2.2.1;have s0:=HE.out.1;have l0:=HE.out.2.2.2;have r1:=r0.far b0 (by decide) (j:=0) (.slice p4 st.l.rules.length d4);have b1:=b0.set_ 0 (.slice p4 st.l.rules.length d4);have s1:=s0.far (p:=⟨w.heap.size+1,0,none⟩) (by show w.heap.size≠w.heap.size+1;omega) (.slice p4 st.l.rules.length d4);have l1:=l0.setCell (p:=⟨w.heap.size+1,0,none⟩) (Nat.le_succ _) (.slice p4 st.l.rules.length d4);have r2:=r1.far b1 (by decide) (j:=1) (.slice p5 el.length d5);have b2:=b1.set_ 1 (.slice p5 el.length d5);have s2:=s1.far (p:=⟨w.heap.size+1,1,none⟩) (by show w.heap.size≠w.heap.size+1;omega) (.slice p5 el.length d5);have l2:=l1.setCell (p:=⟨w.heap.size+1,1,none⟩) (Nat.le_succ _) (.slice p5 el.length d5);have r3:=r2.far b2 (by decide) (j:=2) (.slice p6 st.l.links.length d6);have b3:=b2.set_ 2 (.slice p6 st.l.links.length d6);have s3:=s2.far (p:=⟨w.heap.size+1,2,none⟩) (by show w.heap.size≠w.heap.size+1;omega) (.slice p6 st.l.links.length d6);have l3:=l2.setCell (p:=⟨w.heap.size+1,2,none⟩) (Nat.le_succ _) (.slice p6 st.l.links.length d6);have r4:=r3.far b3 (by decide) (j:=3) (.slice p7 st.l.shifts.length d7);have b4:=b3.set_ 3 (.slice p7 st.l.shifts.length d7);have s4:=s3.far (p:=⟨w.heap.size+1,3,none⟩) (by show w.heap.size≠w.heap.size+1;omega) (.slice p7 st.l.shifts.length d7);have l4:=l3.setCell (p:=⟨w.heap.size+1,3,none⟩) (Nat.le_succ _) (.slice p7 st.l.shifts.length d7);have HN:=hid (And.intro (r4) (And.intro (s4) (And.intro (b4) (l4))));clear r0 b0 s0 l0 r1 b1 s1 l1 r2 b2 s2 l2 r3 b3 s3 l3 r4 b4 s4 l4 HE;generalize ((((W.setCell ⟨w.heap.size+1,0,none⟩ (.slice p4 st.l.rules.length d4)).setCell ⟨w.heap.size+1,1,none⟩ (.slice p5 el.length d5)).setCell ⟨w.heap.size+1,2,none⟩ (.slice p6 st.l.links.length d6)).setCell ⟨w.heap.size+1,3,none⟩ (.slice p7 st.l.shifts.length d7))=wf at *;have r0:=HN.out.2.1.cell_ (i:=0) rfl;have r1:=HN.out.2.1.cell_ (i:=1) rfl;have r2:=HN.out.2.1.cell_ (i:=2) rfl;have r3:=HN.out.2.1.cell_ (i:=3) rfl;have q0:=HN.out.2.2.1.cell_ (i:=0) rfl;have q1:=HN.out.2.2.1.cell_ (i:=1) rfl;have q2:=HN.out.2.2.1.cell_ (i:=2) rfl;have q3:=HN.out.2.2.1.cell_ (i:=3) rfl;refine bodyPost_ret (v:=.tuple #[.agg #[.slice p0 st.s.rules.length d0,.slice p1 cur.length d1,.slice p2 st.s.links.length d2,.slice p3 st.s.shifts.length d3],.agg #[.slice p4 st.l.rules.length d4,.slice p5 el.length d5,.slice p6 st.l.links.length d6,.slice p7 st.l.shifts.length d7],.nilIface]) (by simp [results,Tryz.results20,go_sem,r0,q0,r1,q1,r2,q2,r3,q3]) rfl ⟨.inl ⟨by rw [HF.out],g,st,cur,el,⟨.slice p0 st.s.rules.length d0,.slice p1 cur.length d1,.slice p2 st.s.links.length d2,.slice p3 st.s.shifts.length d3,.slice p4 st.l.rules.length d4,.slice p5 el.length d5,.slice p6 st.l.links.length d6,.slice p7 st.l.shifts.length d7⟩,rfl,HN.out.1,by rw [HF.out],by rw [HF.out]⟩,HN.out.2.2.2⟩
  ·exact absurd rfl h0
 ·have HF:=hid (HX.out.trans (if_pos hle))
  have HLE:=hid hle;have hq:(le != 0)=true:=by simp [hle]
  have hq2:(le==0)=false:=by simp [hle]
  clear HX
  go_enter Tryz.func20,Tryz.ntmps20;go_wp2_with fail
  generalize (w.alloc (.cells #[.slice none 0 0,.slice none 0 0,.slice none 0 0,.slice none 0 0] 30)).alloc (.cells #[.slice none 0 0,.slice none 0 0,.slice none 0 0,.slice none 0 0] 35)=w0 at *;refine HL.out.mono ?_;rintro e1 w1 ⟨hlp,hb⟩
  rcases hlp with ⟨h0,_⟩|⟨_,rfl⟩
  ·exact absurd h0 HLE.out
  ·clear hle
   have HR1:=hid (And.intro (HR0.out.1.below hb HR0.out.1.lt) (And.intro (HR0.out.2.1.below hb HR0.out.2.1.lt) (HR0.out.2.2.trans (hb.mono HR0.out.2.2.size))));clear hb HR0 HL;go_wp2_with fail
   refine (at_any ln le _ (HE.out.below HR1.out.2.2)).mono ?_;rintro e2 w2 ⟨⟨v,rfl,hf⟩,hb⟩;obtain ⟨gf,rfl,hgf⟩:=hf;have HR2:=hid (And.intro (HR1.out.1.below hb HR1.out.1.lt) (And.intro (HR1.out.2.1.below hb HR1.out.2.1.lt) (And.intro (HR1.out.2.2.trans (hb.mono HR1.out.2.2.size)) (hgf))));clear hb hgf HR1;have r0:=HR2.out.1.cell_ (i:=0) (u:=.slice none 0 0) rfl;have r1:=HR2.out.1.cell_ (i:=1) (u:=.slice none 0 0) rfl;have r2:=HR2.out.1.cell_ (i:=2) (u:=.slice none 0 0) rfl;have r3:=HR2.out.1.cell_ (i:=3) (u:=.slice none 0 0) rfl;have rf0:=HR2.out.1.frozen 0;have rf1:=HR2.out.1.frozen 1;have rf2:=HR2.out.1.frozen 2;have rf3:=HR2.out.1.frozen 3;have q0:=HR2.out.2.1.cell_ (i:=0) (u:=.slice none 0 0) rfl;have q1:=HR2.out.2.1.cell_ (i:=1) (u:=.slice none 0 0) rfl;have q2:=HR2.out.2.1.cell_ (i:=2) (u:=.slice none 0 0) rfl;have q3:=HR2.out.2.1.cell_ (i:=3) (u:=.slice none 0 0) rfl;have qf0:=HR2.out.2.1.frozen 0;have qf1:=HR2.out.2.1.frozen 1;have qf2:=HR2.out.2.1.frozen 2;have qf3:=HR2.out.2.1.frozen 3;go_wp2_with fail
   have hst:=store_nil HR2.out.1 HR2.out.2.1 HR2.out.2.2.2 HR2.out.2.2.1;refine bodyPost_ret (v:=.tuple #[.agg #[.slice none 0 0,.slice none 0 0,.slice none 0 0,.slice none 0 0],.agg #[.slice none 0 0,.slice none 0 0,.slice none 0 0,.slice none 0 0],.iface 108 (.pointer (some ⟨gf,0,none⟩))]) (by simp [results,Tryz.results20,go_sem,r0,q0,rf0,qf0,r1,q1,rf1,qf1,r2,q2,rf2,qf2,r3,q3,rf3,qf3]) rfl ⟨ParsePost.bad HF.out HLE.out ⟨gf,rfl,hst.1⟩,hst.2⟩
end Go.Proofs.YtboagmbmmoomiaaGreatDoor
