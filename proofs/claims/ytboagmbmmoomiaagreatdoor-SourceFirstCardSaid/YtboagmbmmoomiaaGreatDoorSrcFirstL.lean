/-
  SourceFirst holds.
-/
import Derived.Test.YtboagmbmmoomiaaGreatDoorSrcLinesL
import Derived.Test.YtboagmbmmoomiaaGreatDoorSrcFFact
set_option linter.unusedVariables false
set_option linter.unusedSimpArgs false
set_option maxRecDepth 100000
set_option maxHeartbeats 4000000
namespace Go.Proofs.YtboagmbmmoomiaaGreatDoor
open Go.Lib (hid)
open Go.RowKit Go.Shelf
theorem noZ_is {w:World} {n:Nat} {r z l h:Value} {zs:List (ZoneP × Value)} {s:SourceP} (k:SrcIs w n r z l h zs s):SrcIs w n r (.slice none 0 0) l h [] (noZ s) :=
 ⟨k.1,⟨none,0,rfl,fun h0=>absurd rfl h0⟩,rfl,fun q hq=>(by cases hq),k.2.2.2.2.1,k.2.2.2.2.2⟩
theorem flatS_take:∀(l:List (List UInt8)) (k:Nat),(flatC encS l).take k=flatC encS (l.take k)
 | [],k=>by simp [flatC]
 | x::l,0=>rfl
 | x::l,k+1=>by
  have h:=flatS_take l k;simp only [flatC,List.take_succ_cons,List.flatMap_cons] at h ⊢;rw [←h]
  rfl
theorem bappF (a b:List UInt8):(⟨a.toArray⟩:ByteArray)++⟨b.toArray⟩=⟨(a++b).toArray⟩:=by
 apply ByteArray.ext
 simp [ByteArray.data_append]
theorem first_text {out:List (List UInt8)} {s:SourceP} (ho:OutIs 1 out (srcFs s)) (hr:SrcRight s) (hf:SrcFew s) (hz:s.zones=[]) {k:Nat} (hk:k≤out.length) (hn:out.length≤160) {x y:List UInt8} {e:Int} (hb:BadLn x e) (hy:(10:UInt8) ∉ y) (hyl:y.length≤200) :
 (joinB [10] (out.take k++[x])).length≤60000∧srcR (joinB [10] (out.take k++[x]))=((SourceP.none,LinesP.none),(k:Int)+1,e)∧srcR (joinB [10] (out.take k++[x])++[10]++y)=((SourceP.none,LinesP.none),(k:Int)+1,e):=by
 have hl:(out.take k).length=k:=by rw [List.length_take];omega
 have hx:=hb.len
 have h1:(joinB [10] (out.take k++[x])).length≤60000:=by
  rw [joinB_eq];refine Nat.le_trans (join_le [10] 300 _ fun z hz=>?_) ?_
  ·rcases List.mem_append.1 hz with hz|hz
   ·exact ((ho.are.all).1 z (List.mem_of_mem_take hz)).2.1
   ·rw [List.mem_singleton.1 hz];omega
  ·rw [List.length_append,hl]
   exact Nat.le_trans (Nat.mul_le_mul (show k+1≤161 by omega) (Nat.le_refl _)) (by decide)
 refine ⟨h1,?_⟩;rw [joinB_snoc] at h1 ⊢;obtain ⟨st',h2,h3⟩:=readF_head (readF_src 1 hr hf) hz k;have h4:=first_law (ho.are.take k) hb.no hb.some (by omega) hy (by omega) (by simp only [List.length_append,List.length_cons,List.length_nil] at h1 ⊢;omega) h2 (hb.bad st' _ h3) hb.ne;rw [hl] at h4;exact h4
theorem sourceFirst_any (r z l s ap wp:Nat) (v:Value) (bs:List Nat) (bh:ByteArray) (w:World) (hr:RowsAt w w.heap.size 1 encY8 v bs) (hbs:∀x ∈ bs,x<256) (hr8:r<256) (hz8:z<256) (hl8:l<256) (hs8:s<256) (ha8:ap<256) (hw8:wp<256) (hbh:bh.size≤maxLen) (hW:SW w) :
 Calls Tryz.prog 3 #[.agg (treeC r z l s v),.int .u8 (ap:Int),.int .u8 (wp:Int),.string bh] w fun e w'=>e=.returned (.bool true)∧Below w.heap.size w w':=by
 obtain ⟨istr,zstr,histr,hzstr,hszstr,hbystr,hzcstr⟩:=info_st (P:=Tryz.prog) (e:=9) (k:=1) (by kernel_rfl);have HW:=hid hW;obtain ⟨m,hm⟩:∃m,wp % 8=m:=⟨_,rfl⟩;have hm2:(wp:Int) % 8=(m:Int):=by omega
 have hm8:m<8:=by omega
 have HB0:=hid (show Below w.heap.size w (w.alloc (.cells (treeC r z l s v) 24)) from (Below.refl _ _).alloc (Nat.le_refl _) _);have HM:=hid (tmade_any r z l s v bs (w.alloc (.cells (treeC r z l s v) 24)) ((hr.below HB0.out).mono HB0.out.size) hbs hr8 hz8 hl8 hs8);clear hr hbs hr8 hz8 hl8 hs8 hW hm
 go_enter Tryz.func3,Tryz.ntmps3
 go_upto_region 1 with fail
 have HK0:Blk (w.alloc (.cells (treeC r z l s v) 24)) w.heap.size 24 (treeC r z l s v):=Blk.new' _ _ _ rfl;have k0:(w.alloc (.cells (treeC r z l s v) 24)).cell? ⟨w.heap.size,0,none⟩=some (.int .u8 (r:Int)):=HK0.cell_ (i:=0) rfl;have k1:(w.alloc (.cells (treeC r z l s v) 24)).cell? ⟨w.heap.size,1,none⟩=some (.int .u8 (z:Int)):=HK0.cell_ (i:=1) rfl;have k2:(w.alloc (.cells (treeC r z l s v) 24)).cell? ⟨w.heap.size,2,none⟩=some (.int .u8 (l:Int)):=HK0.cell_ (i:=2) rfl;have k3:(w.alloc (.cells (treeC r z l s v) 24)).cell? ⟨w.heap.size,3,none⟩=some (.int .u8 (s:Int)):=HK0.cell_ (i:=3) rfl;have k4:(w.alloc (.cells (treeC r z l s v) 24)).cell? ⟨w.heap.size,4,none⟩=some (v):=HK0.cell_ (i:=4) rfl;generalize (w.alloc (.cells (treeC r z l s v) 24))=w1 at *;go_wp2_with fail
 refine HM.out.mono ?_;rintro e w2 ⟨⟨sr,v1,zv,v3,v4,cur,rfl,hcur,hright,m1,m2,m3,m4,m5,hsrc⟩,hb2⟩;obtain ⟨x1,y1,x2,y2,x3,y3,x4,y4,rfl,rfl,rfl,rfl⟩:=src_form hsrc;have HB2:=hid (HB0.out.trans (hb2.mono HB0.out.size));have HS2:=hid hsrc;have HR:=hid (noZ_right hright);have HFW:=hid (show SrcFew (noZ sr) from ⟨by show sr.rules.length≤_;omega,by show 0≤_;omega,by show sr.links.length≤_;omega,by show sr.shifts.length≤_;omega,fun z hz=>(by cases hz)⟩);have HFF:=hid (srcFs_few (s:=noZ sr) m1 (by show 0≤3;omega) (fun z hz=>(by cases hz)) m4 m5);clear hb2 hsrc hright hcur m3 HB0 HM HK0 k0 k1 k2 k3 k4
 go_upto_region 2 with fail
 have HB3:=hid (show Below w.heap.size w (w2.alloc (.cells #[.slice x1 sr.rules.length y1,.slice x2 sr.zones.length y2,.slice x3 sr.links.length y3,.slice x4 sr.shifts.length y4] 30)) from HB2.out.trans (((Below.refl _ _).alloc (Nat.le_refl _) _).mono HB2.out.size));have HK3:=hid (show Blk (w2.alloc (.cells #[.slice x1 sr.rules.length y1,.slice x2 sr.zones.length y2,.slice x3 sr.links.length y3,.slice x4 sr.shifts.length y4] 30)) w2.heap.size 30 #[.slice x1 sr.rules.length y1,.slice x2 sr.zones.length y2,.slice x3 sr.links.length y3,.slice x4 sr.shifts.length y4] from Blk.new' _ _ _ rfl);have HS3:=hid (show SrcIs (w2.alloc (.cells #[.slice x1 sr.rules.length y1,.slice x2 sr.zones.length y2,.slice x3 sr.links.length y3,.slice x4 sr.shifts.length y4] 30)) (w2.alloc (.cells #[.slice x1 sr.rules.length y1,.slice x2 sr.zones.length y2,.slice x3 sr.links.length y3,.slice x4 sr.shifts.length y4] 30)).heap.size (.slice x1 sr.rules.length y1) (.slice x2 sr.zones.length y2) (.slice x3 sr.links.length y3) (.slice x4 sr.shifts.length y4) (cur.map (·.1)) sr from (HS2.out.below ((Below.refl _ _).alloc (Nat.le_refl _) _)).mono (by simp));have HG5:=hid (HB2.out.size);have HB23:=hid (show Below w2.heap.size w2 (w2.alloc (.cells #[.slice x1 sr.rules.length y1,.slice x2 sr.zones.length y2,.slice x3 sr.links.length y3,.slice x4 sr.shifts.length y4] 30)) from (Below.refl _ _).alloc (Nat.le_refl _) _);clear HB2 HS3;generalize (w2.alloc (.cells #[.slice x1 sr.rules.length y1,.slice x2 sr.zones.length y2,.slice x3 sr.links.length y3,.slice x4 sr.shifts.length y4] 30))=w3 at *;generalize w2.heap.size=g5 at *;have s1:=HK3.out.cell_ (i:=1) rfl;have f1:=HK3.out.frozen 1
 go_upto_region 3 with fail
 have HB34:=hid (show Below g5 w2 (w3.setCell ⟨g5,1,none⟩ (.slice none 0 0)) from HB23.out.setCell (p:=⟨g5,1,none⟩) (Nat.le_refl g5) _);have HB4:=hid (show Below w.heap.size w (w3.setCell ⟨g5,1,none⟩ (.slice none 0 0)) from HB3.out.setCell (p:=⟨g5,1,none⟩) HG5.out _);have HK4:=hid (show Blk (w3.setCell ⟨g5,1,none⟩ (.slice none 0 0)) g5 30 #[.slice x1 sr.rules.length y1,.slice none 0 0,.slice x3 sr.links.length y3,.slice x4 sr.shifts.length y4] from HK3.out.set_ 1 _);have HS4:=hid (show SrcIs (w3.setCell ⟨g5,1,none⟩ (.slice none 0 0)) (w3.setCell ⟨g5,1,none⟩ (.slice none 0 0)).heap.size (.slice x1 sr.rules.length y1) (.slice none 0 0) (.slice x3 sr.links.length y3) (.slice x4 sr.shifts.length y4) [] (noZ sr) from noZ_is ((HS2.out.below HB34.out).mono (by have:=HK3.out.lt;simp;omega)));clear s1 f1 HK3 HB3 HS2 HB34 HB23 HG5;generalize (w3.setCell ⟨g5,1,none⟩ (.slice none 0 0))=w4 at *;have c0:=HK4.out.cell_ (i:=0) rfl;have c1:=HK4.out.cell_ (i:=1) rfl;have c2:=HK4.out.cell_ (i:=2) rfl;have c3:=HK4.out.cell_ (i:=3) rfl;have HL:=hid (tlines_any (.slice x1 sr.rules.length y1) (.slice none 0 0) (.slice x3 sr.links.length y3) (.slice x4 sr.shifts.length y4) [] (noZ sr) 1 w4 HS4.out HR.out m1 (by show 0≤3;omega) (fun z hz=>(by cases hz)) m4 m5 (by omega) (fun x hx W hW=>hp_rule (HW.out.below (HB4.out.trans (hW.mono HB4.out.size))) (HR.out.rules x hx)) (fun z hz=>(by cases hz)) (fun x hx W hW=>hp_link (HR.out.links x hx)) (fun x hx W hW=>hp_shift (HR.out.shifts x hx)));rw [show ((1:Nat):Int)=1 from rfl] at HL;clear m1 m2 m4 m5 HS4;go_wp2_with fail
 refine HL.out.mono ?_;rintro e w5 ⟨⟨out,vo,u1,u2,u3,u4,el,rfl,⟨B,hvo⟩,hln,hout⟩,hb5⟩;obtain ⟨t1,z1,t2,z2,t3,z3,t4,z4,rfl,rfl,rfl,rfl⟩:=ln_form hln;have hba:Below w5.heap.size w5 (w5.alloc (.cells #[.slice t1 (srcNs (1+1) (noZ sr)).rules.length z1,.slice t2 (srcNs (1+1) (noZ sr)).eras.length z2,.slice t3 (srcNs (1+1) (noZ sr)).links.length z3,.slice t4 (srcNs (1+1) (noZ sr)).shifts.length z4] 35)):=(Below.refl _ _).alloc (Nat.le_refl _) _;have HB6:=hid (HB4.out.trans ((hb5.trans (hba.mono hb5.size)).mono HB4.out.size));have HO:=hid (OwnR.kept_ hvo hba);have hol:=out_le hout (by omega) HFF.out;have HOU:=hid hout;obtain ⟨qv,cv,rfl⟩:=own_form hvo;obtain ⟨k,hk⟩:∃k,ap % (out.length+1)=k:=⟨_,rfl⟩;have hkl:k≤out.length:=by have:=Nat.mod_lt ap (show 0<out.length+1 by omega);omega
 have hw1:IntKind.i64.wrap ((out.length:Int)+1)=(out.length:Int)+1:=IntWalk.i64_in _ (by omega);have hrm:(ap:Int).tmod ((out.length:Int)+1)=(k:Int):=by rw [Int.tmod_eq_emod_of_nonneg (by omega),←hk];exact (Int.natCast_emod _ _).symm
 have hrw:IntKind.i64.wrap (k:Int)=(k:Int):=IntWalk.i64_in _ (by omega);have hne:((out.length:Int)+1==0)=false:=by rw [beq_eq_false_iff_ne];omega
 have hn0:¬(out.length:Int)+1=0:=by omega
 clear hvo hln hout hb5 hba HL HB4 HK4 c0 c1 c2 c3 hk
 go_upto_region 7 with fail
 generalize (w5.alloc (.cells #[.slice t1 (srcNs (1+1) (noZ sr)).rules.length z1,.slice t2 (srcNs (1+1) (noZ sr)).eras.length z2,.slice t3 (srcNs (1+1) (noZ sr)).links.length z3,.slice t4 (srcNs (1+1) (noZ sr)).shifts.length z4] 35))=w6 at *;obtain ⟨⟨x,ex⟩,hq⟩:∃q,firstT[m]? = some q:=⟨_,List.getElem?_eq_getElem (by simpa [firstT] using hm8)⟩;have HBD:=hid (first_at m _ hq)
 have HC:=hid (show (w6.alloc (.cells #[.string ⟨#[90,111,110,101]⟩,.int .i64 5,.string ⟨#[90,111,110,101,32,47,120,32,48,58,48,48,32,45,32,71,77,84]⟩,.int .i64 9,.string ⟨#[120]⟩,.int .i64 8,.string ⟨#[34]⟩,.int .i64 5,.string ⟨#[82,117,108,101,32,7]⟩,.int .i64 5,.string ⟨#[34,34,32,120]⟩,.int .i64 8,.string ⟨#[76,105,110,107,32,65]⟩,.int .i64 5,.string ⟨#[82,117,108,101,32,82]⟩,.int .i64 5] 39)).rangeAt w6.heap.size (m*2) [.string ⟨x.toArray⟩,.int .i64 ex] from fun j v hv=>by
  have hb:Blk (w6.alloc (.cells #[.string ⟨#[90,111,110,101]⟩,.int .i64 5,.string ⟨#[90,111,110,101,32,47,120,32,48,58,48,48,32,45,32,71,77,84]⟩,.int .i64 9,.string ⟨#[120]⟩,.int .i64 8,.string ⟨#[34]⟩,.int .i64 5,.string ⟨#[82,117,108,101,32,7]⟩,.int .i64 5,.string ⟨#[34,34,32,120]⟩,.int .i64 8,.string ⟨#[76,105,110,107,32,65]⟩,.int .i64 5,.string ⟨#[82,117,108,101,32,82]⟩,.int .i64 5] 39)) w6.heap.size 39 #[.string ⟨#[90,111,110,101]⟩,.int .i64 5,.string ⟨#[90,111,110,101,32,47,120,32,48,58,48,48,32,45,32,71,77,84]⟩,.int .i64 9,.string ⟨#[120]⟩,.int .i64 8,.string ⟨#[34]⟩,.int .i64 5,.string ⟨#[82,117,108,101,32,7]⟩,.int .i64 5,.string ⟨#[34,34,32,120]⟩,.int .i64 8,.string ⟨#[76,105,110,107,32,65]⟩,.int .i64 5,.string ⟨#[82,117,108,101,32,82]⟩,.int .i64 5]:=Blk.new' _ _ _ rfl
  match m,hq with
  | 0,hq =>
   cases hq
   match j,hv with
   | 0,hv=>cases hv;exact hb.cell_ (i:=0) rfl
   | 1,hv=>cases hv;exact hb.cell_ (i:=1) rfl
   | j+2,hv=>simp at hv
  | 1,hq =>
   cases hq
   match j,hv with
   | 0,hv=>cases hv;exact hb.cell_ (i:=2) rfl
   | 1,hv=>cases hv;exact hb.cell_ (i:=3) rfl
   | j+2,hv=>simp at hv
  | 2,hq =>
   cases hq
   match j,hv with
   | 0,hv=>cases hv;exact hb.cell_ (i:=4) rfl
   | 1,hv=>cases hv;exact hb.cell_ (i:=5) rfl
   | j+2,hv=>simp at hv
  | 3,hq =>
   cases hq
   match j,hv with
   | 0,hv=>cases hv;exact hb.cell_ (i:=6) rfl
   | 1,hv=>cases hv;exact hb.cell_ (i:=7) rfl
   | j+2,hv=>simp at hv
  | 4,hq =>
   cases hq
   match j,hv with
   | 0,hv=>cases hv;exact hb.cell_ (i:=8) rfl
   | 1,hv=>cases hv;exact hb.cell_ (i:=9) rfl
   | j+2,hv=>simp at hv
  | 5,hq =>
   cases hq
   match j,hv with
   | 0,hv=>cases hv;exact hb.cell_ (i:=10) rfl
   | 1,hv=>cases hv;exact hb.cell_ (i:=11) rfl
   | j+2,hv=>simp at hv
  | 6,hq =>
   cases hq
   match j,hv with
   | 0,hv=>cases hv;exact hb.cell_ (i:=12) rfl
   | 1,hv=>cases hv;exact hb.cell_ (i:=13) rfl
   | j+2,hv=>simp at hv
  | 7,hq =>
   cases hq
   match j,hv with
   | 0,hv=>cases hv;exact hb.cell_ (i:=14) rfl
   | 1,hv=>cases hv;exact hb.cell_ (i:=15) rfl
   | j+2,hv=>simp at hv
  | k+8,hq=>simp [firstT] at hq)
 have HB8:=hid (show Below w.heap.size w ((w6.alloc (.cells #[.string ⟨#[90,111,110,101]⟩,.int .i64 5,.string ⟨#[90,111,110,101,32,47,120,32,48,58,48,48,32,45,32,71,77,84]⟩,.int .i64 9,.string ⟨#[120]⟩,.int .i64 8,.string ⟨#[34]⟩,.int .i64 5,.string ⟨#[82,117,108,101,32,7]⟩,.int .i64 5,.string ⟨#[34,34,32,120]⟩,.int .i64 8,.string ⟨#[76,105,110,107,32,65]⟩,.int .i64 5,.string ⟨#[82,117,108,101,32,82]⟩,.int .i64 5] 39)).alloc (.cells #[.string ⟨x.toArray⟩,.int .i64 ex] 39)) from HB6.out.trans ((((Below.refl _ _).alloc (Nat.le_refl _) _).alloc (by simp) _).mono HB6.out.size));have HK8:=hid (show Blk ((w6.alloc (.cells #[.string ⟨#[90,111,110,101]⟩,.int .i64 5,.string ⟨#[90,111,110,101,32,47,120,32,48,58,48,48,32,45,32,71,77,84]⟩,.int .i64 9,.string ⟨#[120]⟩,.int .i64 8,.string ⟨#[34]⟩,.int .i64 5,.string ⟨#[82,117,108,101,32,7]⟩,.int .i64 5,.string ⟨#[34,34,32,120]⟩,.int .i64 8,.string ⟨#[76,105,110,107,32,65]⟩,.int .i64 5,.string ⟨#[82,117,108,101,32,82]⟩,.int .i64 5] 39)).alloc (.cells #[.string ⟨x.toArray⟩,.int .i64 ex] 39)) (w6.heap.size+1) 39 #[.string ⟨x.toArray⟩,.int .i64 ex] from Blk.new' _ _ _ (by simp));have HO8:=hid (show StrO B out (.slice qv out.length cv) ((w6.alloc (.cells #[.string ⟨#[90,111,110,101]⟩,.int .i64 5,.string ⟨#[90,111,110,101,32,47,120,32,48,58,48,48,32,45,32,71,77,84]⟩,.int .i64 9,.string ⟨#[120]⟩,.int .i64 8,.string ⟨#[34]⟩,.int .i64 5,.string ⟨#[82,117,108,101,32,7]⟩,.int .i64 5,.string ⟨#[34,34,32,120]⟩,.int .i64 8,.string ⟨#[76,105,110,107,32,65]⟩,.int .i64 5,.string ⟨#[82,117,108,101,32,82]⟩,.int .i64 5] 39)).alloc (.cells #[.string ⟨x.toArray⟩,.int .i64 ex] 39)) from OwnR.kept_ HO.out (((Below.refl _ _).alloc (Nat.le_refl _) _).alloc (by simp) _));have m0:(0:Int)≤(m:Int):=by omega
 have ml:(m:Int)<8:=by omega
 clear HB6 HO hq
 go_upto_region 8 with (first|(refine wpList_load_arr rfl 39 (.tmp 44) rfl w6.heap.size (m*2) rfl #[.string ⟨x.toArray⟩,.int .i64 ex] _ HC.out Tryz.underlying39 rfl (by kernel_rfl) ?_)|fail)
 generalize ((w6.alloc (.cells #[.string ⟨#[90,111,110,101]⟩,.int .i64 5,.string ⟨#[90,111,110,101,32,47,120,32,48,58,48,48,32,45,32,71,77,84]⟩,.int .i64 9,.string ⟨#[120]⟩,.int .i64 8,.string ⟨#[34]⟩,.int .i64 5,.string ⟨#[82,117,108,101,32,7]⟩,.int .i64 5,.string ⟨#[34,34,32,120]⟩,.int .i64 8,.string ⟨#[76,105,110,107,32,65]⟩,.int .i64 5,.string ⟨#[82,117,108,101,32,82]⟩,.int .i64 5] 39)).alloc (.cells #[.string ⟨x.toArray⟩,.int .i64 ex] 39))=w8 at *;generalize w6.heap.size+1=g8 at *;obtain ⟨L,hL⟩:∃L,w8.heap.size=L:=⟨_,rfl⟩;have HRD:=hid (show Reads w8 w8.heap.size 1 qv k (flatC encS (out.take k)) from by have h:=(Reads.of_own (show w8.ownsRow B 9 1 (.slice qv out.length cv) out.length (flatC encS out) from HO8.out)).take hkl;rwa [Nat.mul_one,flatS_take] at h);have HN1:=hid (show ∀u ∈ flatC encS (out.take k),u.oneCell'=true from flatC_one (fun x=>by simp [encS,Value.oneCell']) _);have hk0:(0:Int)≤(k:Int):=by omega
 have hcv:out.length≤cv:=by
  rcases (show w8.ownsRow B 9 1 (.slice qv out.length cv) out.length (flatC encS out) from HO8.out).2 with ⟨e1,h0⟩|⟨g,cap,cur,e1,_,_,h5,_⟩
  ·rw [h0];exact Nat.zero_le _
  ·simp only [Value.slice.injEq] at e1;obtain ⟨-,-,rfl⟩:=e1;omega
 have hkc:(k:Int)≤(cv:Int):=by omega
 refine wp_region_rels 8 [[],[],[],[],[0],[],[],[]] [Form.rel (Nil0 9 1 L),Form.val,Form.val,Form.val,Form.rel (OwnR 9 1 L k (flatC encS (out.take k))),Form.val,Form.val,Form.rel (One 9 L #[.string ⟨x.toArray⟩])] (fun W=>Below w8.heap.size w8 W∧L≤W.heap.size) (by kernel_rfl) (by kernel_rfl) rfl rfl (⟨(Below.refl _ _).drew,by rw [←hL];exact Nat.le_refl _⟩) (fun W W2 h hb=>⟨h.1.trans (hb.mono h.1.size),Nat.le_trans h.2 hb.size⟩) ⟨Nil0.last _ _ _,OwnR.last _ _ _ _ _,One.last _ _ _,trivial⟩ ?_
 repeat (first|apply exSpec_rel|apply exSpec_new|apply exSpec_val)
 apply relWalk_rel rfl ?oh0 (fun u0 K hK=>?nh0)
 case oh0 =>
  intro W hC hF;go_simp
  all_goals exact ⟨(Below.refl _ _).alloc (Nat.le_refl _) _,Nil0.made W hC.2⟩
 case' nh0 =>
  go_simp;refine hK _ ?_;clear hK K
 apply relWalk_ex rfl ?oh1 (fun K hK=>?nh1)
 case oh1 =>
  intro W hC hF;go_simp
  all_goals exact ⟨Below.refl _ _,rfl⟩
 case' nh1 =>
  go_simp;refine hK _ ?_;clear hK K
 apply relWalk_ex rfl ?oh2 (fun K hK=>?nh2)
 case oh2 =>
  intro W hC hF;go_simp
  all_goals exact ⟨Below.refl _ _,rfl⟩
 case' nh2 =>
  go_simp;refine hK _ ?_;clear hK K
 apply relWalk_ex rfl ?oh3 (fun K hK=>?nh3)
 case oh3 =>
  intro W hC hF;go_simp
  all_goals exact ⟨Below.refl _ _,rfl⟩
 case' nh3 =>
  go_simp;refine hK _ ?_;clear hK K
 apply relWalk_rel rfl ?oh4 (fun u4 K hK=>?nh4)
 case oh4 =>
  intro W hC hF;exact relAt_append0 rfl L istr zstr 1 Tryz.underlying28 histr hzstr hszstr hbystr hzcstr (by decide) u0 rfl hF.1 w8.heap.size qv k cv (flatC encS (out.take k)) rfl (HRD.out.below hC.1) HN1.out (by omega)
 case' nh4 =>
  go_simp;refine hK _ ?_;clear hK K
 apply relWalk_ex rfl ?oh5 (fun K hK=>?nh5)
 case oh5 =>
  intro W hC hF;go_simp
  all_goals exact ⟨Below.refl _ _,rfl⟩
 case' nh5 =>
  go_simp;refine hK _ ?_;clear hK K
 apply relWalk_ex rfl ?oh6 (fun K hK=>?nh6)
 case oh6 =>
  intro W hC hF;have c0:=(HK8.out.below hC.1 HK8.out.lt).cell_ (i:=0) rfl;go_simp
  all_goals exact ⟨Below.refl _ _,rfl⟩
 case' nh6 =>
  go_simp;refine hK _ ?_;clear hK K
 apply relWalk_rel rfl ?oh7 (fun u7 K hK=>?nh7)
 case oh7 =>
  intro W hC hF;go_simp
  all_goals exact ⟨(Below.refl _ _).alloc (Nat.le_refl _) _,⟨_,rfl,Blk.new' _ _ _ rfl,hC.2⟩⟩
 case' nh7 =>
  go_simp;refine hK _ ?_;clear hK K
 apply relWalk_end
 intro W hC hF hU;obtain ⟨⟨g7,rfl,hg7,hge7⟩,h4,h0,-⟩:=hF;obtain ⟨q4,d4,rfl⟩:=own_form h4;have HBW:=hid (HB8.out.trans (hC.1.mono HB8.out.size));have HKW:=hid (HK8.out.below hC.1 HK8.out.lt);have HOW:=hid (h4);have HG7:=hid hg7;have hLW:L≤W.heap.size:=hC.2;have hLw:w.heap.size≤L:=by rw [←hL];exact HB8.out.size
 clear hC h0 h4 hU hg7 HB8 HK8 HO8 HRD HN1 hL hcv hkc
 change wpList _ _ _ (_::_) _ _
 go_wp2_with (first|(at_builtin;refine wpList_append_any _ rfl (.tmp 50) (.tmp 53) 28 rfl L 9 istr zstr 1 istr.bytes Tryz.underlying28 histr hzstr hszstr rfl hzcstr (by decide) _ _ _ rfl HOW.out W.heap.size (some ⟨g7,0,none⟩) 1 1 [.string ⟨x.toArray⟩] rfl ?c0 ?c1 ?c2 ?c3 hLW ?_)|fail)
 case c0=>exact ⟨rfl,fun _=>⟨_,rfl,HG7.out.lt,fun j u hu=>by rw [Addr.add_lit,Nat.zero_add];exact HG7.out.cell_ (by simpa using hu)⟩⟩
 case c1=>rfl
 case c2=>unfold maxLen;omega
 case c3 =>
  have:(k+1)*istr.bytes≤161*1000:=Nat.mul_le_mul (by omega) hbystr
  omega
 intro v9 wb hown hgrow _;have hbel:Below w.heap.size w wb:=HBW.out.grown hgrow HBW.out.size (fun a ha=>by have:=own_base HOW.out a ha;omega);have hblk:=blk_grown HKW.out hgrow HOW.out (by decide);have hlk:(out.take k++[x]).length=k+1:=by rw [List.length_append,List.length_take];simp;omega
 have HO9:=hid (show StrO L (out.take k++[x]) v9 wb from by show World.ownsRow _ _ _ _ _ _ _;rw [hlk,flatC_snoc];exact hown);have HB9:=hid hbel;have HK9:=hid hblk;obtain ⟨q9,d9,rfl⟩:=own_form hown;clear hown hgrow hbel hblk HOW HKW HBW HG7 hge7 hLW hLw;obtain ⟨n,hmn,hn2,hnb⟩:∃n:Nat,min (bh.size:Int) 200=(n:Int)∧n≤200∧n≤bh.size:=⟨min bh.size 200,by omega,by omega,by omega⟩;have hrep:=repA_no (bh.extract 0 n).data.toList;have hel:(bh.extract 0 n).data.toList.length≤200:=by rw [Array.length_toList];exact Nat.le_trans (Nat.le_of_eq ByteArray.size_extract) (by omega)
 have hel2:(bh.extract 0 n).size≤200:=by rw [ByteArray.size_extract];omega
 obtain ⟨yl,hyl⟩:∃yl,Lib.replaceAll (bh.extract 0 n).data.toList [10] [32]=yl:=⟨_,rfl⟩;rw [hyl] at hrep;have hyl2:yl.length≤200:=by omega
 obtain ⟨ht1,ht2,ht3⟩:=first_text HOU.out HR.out HFW.out rfl hkl hol HBD.out hrep.1 hyl2;obtain ⟨tl,htl⟩:∃tl,joinB [10] (out.take k++[x])=tl:=⟨_,rfl⟩;rw [htl] at ht1 ht2 ht3;obtain ⟨tb,htb⟩:∃tb:ByteArray,(⟨tl.toArray⟩:ByteArray)=tb:=⟨_,rfl⟩;obtain ⟨yb,hyb⟩:∃yb:ByteArray,(⟨yl.toArray⟩:ByteArray)=yb:=⟨_,rfl⟩;obtain ⟨tc,htc⟩:∃tc:ByteArray,tb++⟨#[10]⟩=tc:=⟨_,rfl⟩;obtain ⟨td,htd⟩:∃td:ByteArray,tc++yb=td:=⟨_,rfl⟩;have htd2:(⟨(tl++[10]++yl).toArray⟩:ByteArray)=td:=by rw [←htd,←htc,←htb,←hyb,show (⟨#[10]⟩:ByteArray)=⟨([10]:List UInt8).toArray⟩ from rfl,bappF,bappF]
 have zb:tb.size≤60000:=by rw [←htb];show tl.toArray.size≤_;simpa using ht1
 have zy:yb.size≤200:=by rw [←hyb];show yl.toArray.size≤_;simpa using hyl2
 have zc:tc.size≤60001:=by rw [←htc,ByteArray.size_append];have:(⟨#[10]⟩:ByteArray).size=1:=rfl;omega
 have zd:td.size≤60201:=by rw [←htd,ByteArray.size_append];omega
 have HJ:=hid (show ∀W,Below wb.heap.size wb W→Calls Tryz.prog 7 #[.slice q9 (k+1) d9,.string ⟨#[10]⟩] W fun e w'=>e=.returned (.string tb)∧Below W.heap.size W w' from fun W hW=>by
  have h:=tjoin_any (OwnR.kept_ HO9.out hW) (by rw [hlk];omega) (by rw [htl];omega);rw [htl,htb] at h;exact h)
 have HF1:=hid (show ∀W,Below wb.heap.size wb W→Calls Tryz.prog 6 #[.string tb,.int .i64 ((k:Int)+1),.int .i64 ex] W fun e w'=>e=.returned (.bool true)∧Below W.heap.size W w' from fun W hW=>refused_any tb _ _ W (HW.out.below (HB9.out.trans (hW.mono HB9.out.size))) (by omega) (by rw [←htb];exact ht2) HBD.out.ne);have HF2:=hid (show ∀W,Below wb.heap.size wb W→Calls Tryz.prog 6 #[.string td,.int .i64 ((k:Int)+1),.int .i64 ex] W fun e w'=>e=.returned (.bool true)∧Below W.heap.size W w' from fun W hW=>refused_any td _ _ W (HW.out.below (HB9.out.trans (hW.mono HB9.out.size))) (by omega) (by rw [←htd2];exact ht3) HBD.out.ne)
 have HRP:=hid (show ∀W,Below wb.heap.size wb W→Calls Tryz.prog 8 #[.string (bh.extract 0 n),.string ⟨#[10]⟩,.string ⟨#[32]⟩] W fun e w'=>e=.returned (.string yb)∧Below W.heap.size W w' from fun W hW=>by
  obtain ⟨mx,hmx⟩:=(HW.out.below (HB9.out.trans (hW.mono HB9.out.size))).maxl
  have hct:Lib.countB (bh.extract 0 n) ⟨#[10]⟩≤201:=by
   show Lib.count (bh.extract 0 n).data.toList [10]≤201
   rw [Lib.count_one];exact Nat.le_trans List.count_le_length (by omega)
  have h:=Any.strings_ReplaceAll Tryz.lays155 Tryz.Builder_Extra_155 (bh.extract 0 n) ⟨#[10]⟩ ⟨#[32]⟩ mx W (by omega) hmx (by decide) (by have e1:(⟨#[32]⟩:ByteArray).size=1:=rfl;rw [e1];omega);rw [show (⟨#[10]⟩:ByteArray).data.toList=[10] from rfl,show (⟨#[32]⟩:ByteArray).data.toList=[32] from rfl,hyl,hyb] at h;exact h)
 have HWk:=hid (show ∀W,Below wb.heap.size wb W→Calls Tryz.prog 9 #[] W fun e w'=>e=.returned (.bool true)∧Below W.heap.size W w' from fun W hW=>works_any W (HW.out.below (HB9.out.trans (hW.mono HB9.out.size))));have hwk:IntKind.i64.wrap ((k:Int)+1)=(k:Int)+1:=IntWalk.i64_in _ (by omega);have hn0:(0:Int)≤(n:Int):=by omega
 have hnb2:(n:Int)≤(bh.size:Int):=by omega
 clear hrep hel hyl ht1 ht2 ht3 htl htb hyb htd2 HOU HR HFW HFF HO9 hol hyl2
 go_upto_region 9 with fail
 refine wp_region_rels 27 [[],[],[],[],[],[],[],[],[],[],[],[],[],[],[],[],[],[],[],[],[],[],[],[],[],[],[]] [Form.val,Form.val,Form.val,Form.val,Form.val,Form.val,Form.val,Form.val,Form.val,Form.val,Form.val,Form.val,Form.val,Form.val,Form.val,Form.val,Form.val,Form.val,Form.val,Form.val,Form.val,Form.val,Form.val,Form.val,Form.val,Form.val,Form.val] (fun W=>Below wb.heap.size wb W) (by kernel_rfl) (by kernel_rfl) rfl rfl ((Below.refl _ _).drew) (fun W W2 h hb=>h.trans (hb.mono h.size)) trivial ?_
 repeat (first|apply exSpec_rel|apply exSpec_new|apply exSpec_val)
 apply relWalk_ex rfl ?oj0 (fun K hK=>?nj0)
 case oj0 =>
  intro W hC hF;go_simp
  all_goals exact ⟨Below.refl _ _,rfl⟩
 case' nj0 =>
  go_simp;refine hK _ ?_;clear hK K
 apply relWalk_ex rfl ?oj1 (fun K hK=>?nj1)
 case oj1 =>
  intro W hC hF;go_simp
  all_goals exact (HJ.out W hC).mono fun e w2 ⟨he,hb⟩=>⟨he,hb⟩
 case' nj1 =>
  go_simp;refine hK _ ?_;clear hK K
 apply relWalk_ex rfl ?oj2 (fun K hK=>?nj2)
 case oj2 =>
  intro W hC hF;go_simp
  all_goals exact ⟨Below.refl _ _,rfl⟩
 case' nj2 =>
  go_simp;refine hK _ ?_;clear hK K
 apply relWalk_ex rfl ?oj3 (fun K hK=>?nj3)
 case oj3 =>
  intro W hC hF;go_simp
  all_goals exact ⟨Below.refl _ _,rfl⟩
 case' nj3 =>
  go_simp;refine hK _ ?_;clear hK K
 apply relWalk_ex rfl ?oj4 (fun K hK=>?nj4)
 case oj4 =>
  intro W hC hF;go_simp
  all_goals exact ⟨Below.refl _ _,rfl⟩
 case' nj4 =>
  go_simp;refine hK _ ?_;clear hK K
 apply relWalk_ex rfl ?oj5 (fun K hK=>?nj5)
 case oj5 =>
  intro W hC hF;have c1:=(HK9.out.below hC HK9.out.lt).cell_ (i:=1) rfl;go_simp
  all_goals exact ⟨Below.refl _ _,rfl⟩
 case' nj5 =>
  go_simp;refine hK _ ?_;clear hK K
 apply relWalk_ex rfl ?oj6 (fun K hK=>?nj6)
 case oj6 =>
  intro W hC hF;go_simp
  all_goals exact (HF1.out W hC).mono fun e w2 ⟨he,hb⟩=>⟨he,hb⟩
 case' nj6 =>
  go_simp;refine hK _ ?_;clear hK K
 apply relWalk_ex rfl ?oj7 (fun K hK=>?nj7)
 case oj7 =>
  intro W hC hF;go_simp
  all_goals exact ⟨Below.refl _ _,rfl⟩
 case' nj7 =>
  go_simp;refine hK _ ?_;clear hK K
 apply relWalk_exg ?oj8 (fun K hK=>?nj8)
 case oj8 =>
  intro W hC hF
  first|exact relOp_off rfl rfl rfl rfl|exact relOp_none rfl rfl rfl|skip
  all_goals
   refine relOp_on rfl rfl ?_;go_simp
   all_goals exact ⟨Below.refl _ _,rfl⟩
 case' nj8 =>
  go_simp;refine hK _ ?_;clear hK K
 apply relWalk_exg ?oj9 (fun K hK=>?nj9)
 case oj9 =>
  intro W hC hF
  first|exact relOp_off rfl rfl rfl rfl|exact relOp_none rfl rfl rfl|skip
  all_goals
   refine relOp_on rfl rfl ?_;go_simp
   all_goals exact (HJ.out W hC).mono fun e w2 ⟨he,hb⟩=>⟨he,hb⟩
 case' nj9 =>
  go_simp;refine hK _ ?_;clear hK K
 apply relWalk_exg ?oj10 (fun K hK=>?nj10)
 case oj10 =>
  intro W hC hF
  first|exact relOp_off rfl rfl rfl rfl|exact relOp_none rfl rfl rfl|skip
  all_goals
   refine relOp_on rfl rfl ?_;go_simp
   all_goals (first|exact ⟨Below.refl _ _,rfl⟩|(rw [if_neg (by omega)];exact ⟨Below.refl _ _,rfl⟩))
 case' nj10 =>
  go_simp;refine hK _ ?_;clear hK K
 apply relWalk_exg ?oj11 (fun K hK=>?nj11)
 case oj11 =>
  intro W hC hF
  first|exact relOp_off rfl rfl rfl rfl|exact relOp_none rfl rfl rfl|skip
  all_goals
   refine relOp_on rfl rfl ?_;go_simp
   all_goals exact ⟨Below.refl _ _,rfl⟩
 case' nj11 =>
  go_simp;refine hK _ ?_;clear hK K
 apply relWalk_exg ?oj12 (fun K hK=>?nj12)
 case oj12 =>
  intro W hC hF
  first|exact relOp_off rfl rfl rfl rfl|exact relOp_none rfl rfl rfl|skip
  all_goals
   refine relOp_on rfl rfl ?_;go_simp
   all_goals exact ⟨Below.refl _ _,rfl⟩
 case' nj12 =>
  go_simp;refine hK _ ?_;clear hK K
 apply relWalk_exg ?oj13 (fun K hK=>?nj13)
 case oj13 =>
  intro W hC hF
  first|exact relOp_off rfl rfl rfl rfl|exact relOp_none rfl rfl rfl|skip
  all_goals
   refine relOp_on rfl rfl ?_;go_simp
   all_goals exact ⟨Below.refl _ _,rfl⟩
 case' nj13 =>
  go_simp;refine hK _ ?_;clear hK K
 apply relWalk_exg ?oj14 (fun K hK=>?nj14)
 case oj14 =>
  intro W hC hF
  first|exact relOp_off rfl rfl rfl rfl|exact relOp_none rfl rfl rfl|skip
  all_goals
   refine relOp_on rfl rfl ?_;go_simp
   all_goals exact ⟨Below.refl _ _,rfl⟩
 case' nj14 =>
  go_simp;refine hK _ ?_;clear hK K
 apply relWalk_exg ?oj15 (fun K hK=>?nj15)
 case oj15 =>
  intro W hC hF
  first|exact relOp_off rfl rfl rfl rfl|exact relOp_none rfl rfl rfl|skip
  all_goals
   refine relOp_on rfl rfl ?_;go_simp
   all_goals exact ⟨Below.refl _ _,rfl⟩
 case' nj15 =>
  go_simp;refine hK _ ?_;clear hK K
 apply relWalk_exg ?oj16 (fun K hK=>?nj16)
 case oj16 =>
  intro W hC hF
  first|exact relOp_off rfl rfl rfl rfl|exact relOp_none rfl rfl rfl|skip
  all_goals
   refine relOp_on rfl rfl ?_;go_simp
   all_goals exact (HRP.out W hC).mono fun e w2 ⟨he,hb⟩=>⟨he,hb⟩
 case' nj16 =>
  go_simp;refine hK _ ?_;clear hK K
 apply relWalk_exg ?oj17 (fun K hK=>?nj17)
 case oj17 =>
  intro W hC hF
  first|exact relOp_off rfl rfl rfl rfl|exact relOp_none rfl rfl rfl|skip
  all_goals
   refine relOp_on rfl rfl ?_;go_simp
   all_goals (first|exact ⟨Below.refl _ _,rfl⟩|(rw [if_neg (by omega)];exact ⟨Below.refl _ _,rfl⟩))
 case' nj17 =>
  go_simp;refine hK _ ?_;clear hK K
 apply relWalk_exg ?oj18 (fun K hK=>?nj18)
 case oj18 =>
  intro W hC hF
  first|exact relOp_off rfl rfl rfl rfl|exact relOp_none rfl rfl rfl|skip
  all_goals
   refine relOp_on rfl rfl ?_;go_simp
   all_goals exact ⟨Below.refl _ _,rfl⟩
 case' nj18 =>
  go_simp;refine hK _ ?_;clear hK K
 apply relWalk_exg ?oj19 (fun K hK=>?nj19)
 case oj19 =>
  intro W hC hF
  first|exact relOp_off rfl rfl rfl rfl|exact relOp_none rfl rfl rfl|skip
  all_goals
   refine relOp_on rfl rfl ?_;go_simp
   all_goals exact ⟨Below.refl _ _,rfl⟩
 case' nj19 =>
  go_simp;refine hK _ ?_;clear hK K
 apply relWalk_exg ?oj20 (fun K hK=>?nj20)
 case oj20 =>
  intro W hC hF
  first|exact relOp_off rfl rfl rfl rfl|exact relOp_none rfl rfl rfl|skip
  all_goals
   refine relOp_on rfl rfl ?_;go_simp
   all_goals exact ⟨Below.refl _ _,rfl⟩
 case' nj20 =>
  go_simp;refine hK _ ?_;clear hK K
 apply relWalk_exg ?oj21 (fun K hK=>?nj21)
 case oj21 =>
  intro W hC hF
  first|exact relOp_off rfl rfl rfl rfl|exact relOp_none rfl rfl rfl|skip
  all_goals
   refine relOp_on rfl rfl ?_;have c1:=(HK9.out.below hC HK9.out.lt).cell_ (i:=1) rfl;go_simp
   all_goals exact ⟨Below.refl _ _,rfl⟩
 case' nj21 =>
  go_simp;refine hK _ ?_;clear hK K
 apply relWalk_exg ?oj22 (fun K hK=>?nj22)
 case oj22 =>
  intro W hC hF
  first|exact relOp_off rfl rfl rfl rfl|exact relOp_none rfl rfl rfl|skip
  all_goals
   refine relOp_on rfl rfl ?_;go_simp
   all_goals exact (HF2.out W hC).mono fun e w2 ⟨he,hb⟩=>⟨he,hb⟩
 case' nj22 =>
  go_simp;refine hK _ ?_;clear hK K
 apply relWalk_ex rfl ?oj23 (fun K hK=>?nj23)
 case oj23 =>
  intro W hC hF;go_simp
  all_goals exact ⟨Below.refl _ _,rfl⟩
 case' nj23 =>
  go_simp;refine hK _ ?_;clear hK K
 apply relWalk_ex rfl ?oj24 (fun K hK=>?nj24)
 case oj24 =>
  intro W hC hF;go_simp
  all_goals exact ⟨Below.refl _ _,rfl⟩
 case' nj24 =>
  go_simp;refine hK _ ?_;clear hK K
 apply relWalk_exg ?oj25 (fun K hK=>?nj25)
 case oj25 =>
  intro W hC hF
  first|exact relOp_off rfl rfl rfl rfl|exact relOp_none rfl rfl rfl|skip
  all_goals
   refine relOp_on rfl rfl ?_;go_simp
   all_goals exact (HWk.out W hC).mono fun e w2 ⟨he,hb⟩=>⟨he,hb⟩
 case' nj25 =>
  go_simp;refine hK _ ?_;clear hK K
 apply relWalk_ex rfl ?oj26 (fun K hK=>?nj26)
 case oj26 =>
  intro W hC hF;go_simp
  all_goals exact ⟨Below.refl _ _,rfl⟩
 case' nj26 =>
  go_simp;refine hK _ ?_;clear hK K
 apply relWalk_end
 intro W hC hF hU;have HBf:=hid (HB9.out.trans (hC.mono HB9.out.size));clear hC hF hU HJ HF1 HF2 HRP HWk HB9 HK9;go_wp2_with fail
 go_ret
 exact ⟨rfl,HBf.out⟩
end Go.Proofs.YtboagmbmmoomiaaGreatDoor
