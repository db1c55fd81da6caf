/-
  The tree of layer 13: a number, a day and a time out of it.
-/
import Derived.Test.YtboagmbmmoomiaaGreatDoorTreeRel
import Derived.Test.YtboagmbmmoomiaaGreatDoorPLink
set_option linter.unusedVariables false
set_option linter.unusedSimpArgs false
set_option maxRecDepth 100000
set_option maxHeartbeats 4000000
namespace Go.Proofs.YtboagmbmmoomiaaGreatDoor
open Go.Lib (hid)
open Go.RowKit Go.Shelf
attribute [local go_sem] relAtR relUponR
def encY8 (n:Nat):Array Value:=#[.int .u8 (n:Int)]
def treeC (r z l s:Nat) (v:Value):Array Value:=#[.int .u8 (r:Int),.int .u8 (z:Int),.int .u8 (l:Int),.int .u8 (s:Int),v]
theorem AtR.set {bn j:Nat} {w:World} (h:Blk w bn 3 #[.int .i64 (j:Int)]):AtR 1 bn w (w.setCell ⟨bn,0,none⟩ (.int .i64 ((j:Int)+1))):=by
 refine ⟨rfl,rfl,rfl,by simp,fun i hi hne=>Below.heap_setCell w _ _ i hne,fun k hk=>?_⟩
 have hkj:(k:Int)=(j:Int):=by
  have h1:=hk.cell_ (i:=0) rfl;have h2:=h.cell_ (i:=0) rfl;rw [h1] at h2
  simpa using h2
 exact ⟨j+1,by have h3:=h.set_ 0 (.int .i64 ((j:Int)+1));exact h3,by omega⟩
theorem AtR.then_ {c bn:Nat} {w w' w'':World} (h:AtR c bn w w') (hb:Below w'.heap.size w' w''):AtR c bn w w'' :=
 ⟨hb.os.trans h.os,hb.tape.trans h.tape,hb.output.trans h.output,Nat.le_trans h.size hb.size,fun j hj hn=>(hb.block j (Nat.lt_of_lt_of_le hj h.size)).trans (h.other j hj hn),fun k hk=>by
  obtain ⟨k',h1,h2⟩:=h.cnt k hk;exact ⟨k',h1.below hb h1.lt,h2⟩⟩
structure AtW (bn gt b o x y:Nat) (j:Nat) (T:Array Value) (W0 W:World):Prop where
 cnt:Blk W bn 3 #[.int .i64 ((j:Int)+1)]
 tree:Blk W gt 24 T
 cell:W.cell? ⟨b,o+x,none⟩=some (.int .u8 (y:Int))
 at_:AtR 1 bn W0 W
theorem AtW.below {bn gt b o x y j:Nat} {T:Array Value} {W0 W W':World} (h:AtW bn gt b o x y j T W0 W) (hbl:b<W.heap.size) (hb:Below W.heap.size W W'):AtW bn gt b o x y j T W0 W' :=
 ⟨h.cnt.below hb h.cnt.lt,h.tree.below hb h.tree.lt,(hb.cell (p:=⟨b,o+x,none⟩) hbl).trans h.cell,h.at_.then_ hb⟩
theorem tat_any {n₀ gt bn ba k r z l s:Nat} {v:Value} {ls:List Nat} {w W:World} (h:TW n₀ gt bn ba (treeC r z l s v) w k W) (hr:RowsAt w n₀ 1 encY8 v ls) (hls:∀x ∈ ls,x<256) (hk:k≤1000000) (m:Int) (hm:0<m∧m≤1000) :
 Calls Tryz.prog 10 #[.int .i64 m,.pointer (some ⟨bn,0,none⟩),.pointer (some ⟨gt,0,none⟩)] W fun e W'=>(∃y:Int,e=.returned (.int .i64 y)∧0≤y∧y<m)∧AtR 1 bn W W':=by
 obtain ⟨l1,l2,l3⟩:=h.le;obtain ⟨j,hj,hjk⟩:=h.cnt;have HB:=hid (hr.below (h.bel.setCell (p:=⟨bn,0,none⟩) (by show n₀≤bn;omega) (.int .i64 ((j:Int)+1))));have HT:=hid (h.tree.far (p:=⟨bn,0,none⟩) (by show gt≠bn;omega) (.int .i64 ((j:Int)+1)));have HN:=hid (show Blk (W.setCell ⟨bn,0,none⟩ (.int .i64 ((j:Int)+1))) bn 3 #[.int .i64 ((j:Int)+1)] from hj.set_ 0 _);have HA:=hid (AtR.set hj);have hc:=hj.cell_ (i:=0) rfl;have hf:=hj.frozen 0;have hw:IntKind.i64.wrap ((j:Int)+1)=(j:Int)+1:=IntWalk.i64_in _ (by omega);have hgs:n₀<W.heap.size:=by have:=h.tree.lt;omega
 have HLS:=hid hls;clear h hr hj hls
 go_enter Tryz.func10,Tryz.ntmps10
 go_upto_region 2 with fail
 have hgs:n₀<(W.setCell ⟨bn,0,none⟩ (.int .i64 ((j:Int)+1))).heap.size:=by simpa using hgs
 generalize W.setCell ⟨bn,0,none⟩ (.int .i64 ((j:Int)+1))=W1 at *;obtain ⟨p,c,rfl,HR⟩:=HB.out;have t4:W1.cell? ⟨gt,4,none⟩=some (.slice p ls.length c):=HT.out.cell_ (i:=4) rfl;have c1:=HN.out.cell_ (i:=0) rfl;clear hc hf hw
 by_cases h0:ls=[]
 ·have hz:((ls.length:Int)==0)=true:=by rw [h0];rfl
  have hrm:((j:Int)+1).tmod m=((j:Int)+1) % m:=Int.tmod_eq_emod_of_nonneg (by omega);have hm0:¬m=0:=by omega
  have hmz:(m==0)=false:=by rw [beq_eq_false_iff_ne];exact hm0
  have hy1:=Int.emod_nonneg ((j:Int)+1) hm0;have hy2:=Int.emod_lt_of_pos ((j:Int)+1) hm.1;have hwy:IntKind.i64.wrap (((j:Int)+1) % m)=((j:Int)+1) % m:=IntWalk.i64_in _ (by omega);go_wp2_with fail
  go_ret
  exact ⟨⟨_,rfl,hy1,hy2⟩,HA.out⟩
 ·obtain ⟨b,o,rfl,hb,ha⟩:=HR h0
  have hnp:0<ls.length:=List.length_pos_iff.2 h0;have hz:((ls.length:Int)==0)=false:=by rw [beq_eq_false_iff_ne];omega
  obtain ⟨x,hx⟩:∃x,(j+1) % ls.length=x:=⟨_,rfl⟩;have hxl:x<ls.length:=by rw [←hx];exact Nat.mod_lt _ hnp
  have hrm:((j:Int)+1).tmod (ls.length:Int)=(x:Int):=by rw [Int.tmod_eq_emod_of_nonneg (by omega),←hx];exact (Int.natCast_emod _ _).symm
  have hxb:x≤j+1:=by rw [←hx];exact Nat.mod_le _ _
  have hwx:IntKind.i64.wrap (x:Int)=(x:Int):=IntWalk.i64_in _ (by omega);have x0:(0:Int)≤(x:Int):=by omega
  have xl:(x:Int)<(ls.length:Int):=by omega
  obtain ⟨y,hy⟩:∃y,ls[x]? = some y:=⟨_,List.getElem?_eq_getElem hxl⟩;have hy256:=HLS.out y (List.mem_of_getElem? hy)
  have hcy:W1.cell? ⟨b,o+x,none⟩=some (.int .u8 (y:Int)):=by
   have h9:=ha x y hy 0 _ rfl;rwa [Nat.mul_one,Nat.add_zero] at h9
  have hw8:IntKind.i64.wrap (y:Int)=(y:Int):=IntWalk.i64_in _ (by omega);have hm0:¬m=0:=by omega
  have hmz:(m==0)=false:=by rw [beq_eq_false_iff_ne];exact hm0
  have hry:(y:Int).tmod m=(y:Int) % m:=Int.tmod_eq_emod_of_nonneg (by omega);have hy1:=Int.emod_nonneg (y:Int) hm0;have hy2:=Int.emod_lt_of_pos (y:Int) hm.1;have hwy:IntKind.i64.wrap ((y:Int) % m)=(y:Int) % m:=IntWalk.i64_in _ (by omega);have hb1:b<n₀:=hb;have HAW:=hid (show AtW bn gt b o x y j (treeC r z l s (.slice (some ⟨b,o,none⟩) ls.length c)) W W1 from ⟨HN.out,HT.out,hcy,HA.out⟩);clear ha hy HR HN HA HT HB
  go_upto_region 4 with fail
  refine wp_region_rels 12 [[],[],[],[],[],[],[],[],[],[],[],[]] [Form.val,Form.val,Form.val,Form.val,Form.val,Form.val,Form.val,Form.val,Form.val,Form.val,Form.val,Form.val] (fun W2=>AtW bn gt b o x y j (treeC r z l s (.slice (some ⟨b,o,none⟩) ls.length c)) W W2∧n₀<W2.heap.size) (by kernel_rfl) (by kernel_rfl) rfl rfl (⟨HAW.out.below (by omega) (Below.refl _ _).drew,hgs⟩) (fun W2 W3 h hb=>⟨h.1.below (by omega) hb,Nat.lt_of_lt_of_le h.2 hb.size⟩) trivial ?_
  repeat (first|apply exSpec_rel|apply exSpec_new|apply exSpec_val)
  apply relWalk_ex rfl ?o0 (fun K hK=>?n0)
  case o0 =>
   intro W hC hF;have t4:W.cell? ⟨gt,4,none⟩=some (.slice (some ⟨b,o,none⟩) ls.length c):=hC.1.tree.cell_ (i:=4) rfl;have c1:=hC.1.cnt.cell_ (i:=0) rfl;have hcy:=hC.1.cell;go_simp
   all_goals exact ⟨Below.refl _ _,rfl⟩
  case' n0 =>
   go_simp;refine hK _ ?_;clear hK K
  apply relWalk_ex rfl ?o1 (fun K hK=>?n1)
  case o1 =>
   intro W hC hF;have t4:W.cell? ⟨gt,4,none⟩=some (.slice (some ⟨b,o,none⟩) ls.length c):=hC.1.tree.cell_ (i:=4) rfl;have c1:=hC.1.cnt.cell_ (i:=0) rfl;have hcy:=hC.1.cell;go_simp
   all_goals exact ⟨Below.refl _ _,rfl⟩
  case' n1 =>
   go_simp;refine hK _ ?_;clear hK K
  apply relWalk_ex rfl ?o2 (fun K hK=>?n2)
  case o2 =>
   intro W hC hF;have t4:W.cell? ⟨gt,4,none⟩=some (.slice (some ⟨b,o,none⟩) ls.length c):=hC.1.tree.cell_ (i:=4) rfl;have c1:=hC.1.cnt.cell_ (i:=0) rfl;have hcy:=hC.1.cell;go_simp
   all_goals exact ⟨Below.refl _ _,rfl⟩
  case' n2 =>
   go_simp;refine hK _ ?_;clear hK K
  apply relWalk_ex rfl ?o3 (fun K hK=>?n3)
  case o3 =>
   intro W hC hF;have t4:W.cell? ⟨gt,4,none⟩=some (.slice (some ⟨b,o,none⟩) ls.length c):=hC.1.tree.cell_ (i:=4) rfl;have c1:=hC.1.cnt.cell_ (i:=0) rfl;have hcy:=hC.1.cell;go_simp
   all_goals exact ⟨Below.refl _ _,rfl⟩
  case' n3 =>
   go_simp;refine hK _ ?_;clear hK K
  apply relWalk_ex rfl ?o4 (fun K hK=>?n4)
  case o4 =>
   intro W hC hF;have t4:W.cell? ⟨gt,4,none⟩=some (.slice (some ⟨b,o,none⟩) ls.length c):=hC.1.tree.cell_ (i:=4) rfl;have c1:=hC.1.cnt.cell_ (i:=0) rfl;have hcy:=hC.1.cell;go_simp
   all_goals exact ⟨Below.refl _ _,rfl⟩
  case' n4 =>
   go_simp;refine hK _ ?_;clear hK K
  apply relWalk_ex rfl ?o5 (fun K hK=>?n5)
  case o5 =>
   intro W hC hF;have t4:W.cell? ⟨gt,4,none⟩=some (.slice (some ⟨b,o,none⟩) ls.length c):=hC.1.tree.cell_ (i:=4) rfl;have c1:=hC.1.cnt.cell_ (i:=0) rfl;have hcy:=hC.1.cell;go_simp
   all_goals exact ⟨Below.refl _ _,rfl⟩
  case' n5 =>
   go_simp;refine hK _ ?_;clear hK K
  apply relWalk_ex rfl ?o6 (fun K hK=>?n6)
  case o6 =>
   intro W hC hF;have t4:W.cell? ⟨gt,4,none⟩=some (.slice (some ⟨b,o,none⟩) ls.length c):=hC.1.tree.cell_ (i:=4) rfl;have c1:=hC.1.cnt.cell_ (i:=0) rfl;have hcy:=hC.1.cell;go_simp
   all_goals exact ⟨Below.refl _ _,rfl⟩
  case' n6 =>
   go_simp;refine hK _ ?_;clear hK K
  apply relWalk_ex rfl ?o7 (fun K hK=>?n7)
  case o7 =>
   intro W hC hF;have t4:W.cell? ⟨gt,4,none⟩=some (.slice (some ⟨b,o,none⟩) ls.length c):=hC.1.tree.cell_ (i:=4) rfl;have c1:=hC.1.cnt.cell_ (i:=0) rfl;have hcy:=hC.1.cell;go_simp
   all_goals exact ⟨Below.refl _ _,rfl⟩
  case' n7 =>
   go_simp;refine hK _ ?_;clear hK K
  apply relWalk_ex rfl ?o8 (fun K hK=>?n8)
  case o8 =>
   intro W hC hF;have t4:W.cell? ⟨gt,4,none⟩=some (.slice (some ⟨b,o,none⟩) ls.length c):=hC.1.tree.cell_ (i:=4) rfl;have c1:=hC.1.cnt.cell_ (i:=0) rfl;have hcy:=hC.1.cell;go_simp
   all_goals exact ⟨Below.refl _ _,rfl⟩
  case' n8 =>
   go_simp;refine hK _ ?_;clear hK K
  apply relWalk_ex rfl ?o9 (fun K hK=>?n9)
  case o9 =>
   intro W hC hF;have t4:W.cell? ⟨gt,4,none⟩=some (.slice (some ⟨b,o,none⟩) ls.length c):=hC.1.tree.cell_ (i:=4) rfl;have c1:=hC.1.cnt.cell_ (i:=0) rfl;have hcy:=hC.1.cell;go_simp
   all_goals exact ⟨Below.refl _ _,rfl⟩
  case' n9 =>
   go_simp;refine hK _ ?_;clear hK K
  apply relWalk_ex rfl ?o10 (fun K hK=>?n10)
  case o10 =>
   intro W hC hF;have t4:W.cell? ⟨gt,4,none⟩=some (.slice (some ⟨b,o,none⟩) ls.length c):=hC.1.tree.cell_ (i:=4) rfl;have c1:=hC.1.cnt.cell_ (i:=0) rfl;have hcy:=hC.1.cell;go_simp
   all_goals exact ⟨Below.refl _ _,rfl⟩
  case' n10 =>
   go_simp;refine hK _ ?_;clear hK K
  apply relWalk_ex rfl ?o11 (fun K hK=>?n11)
  case o11 =>
   intro W hC hF;have t4:W.cell? ⟨gt,4,none⟩=some (.slice (some ⟨b,o,none⟩) ls.length c):=hC.1.tree.cell_ (i:=4) rfl;have c1:=hC.1.cnt.cell_ (i:=0) rfl;have hcy:=hC.1.cell;go_simp
   all_goals exact ⟨Below.refl _ _,rfl⟩
  case' n11 =>
   go_simp;refine hK _ ?_;clear hK K
  apply relWalk_end
  intro W hC hF hU;have HX:=hid hC.1.at_;clear hC hF hU;go_wp2_with fail
  go_ret
  exact ⟨⟨_,rfl,hy1,hy2⟩,HX.out⟩
theorem results_cell1 {P:Program} {fn:Func} {p:Tmp} {ty:TypeId} (h:fn.results=#[.cell p ty]) (tmps:Array Value) (w:World) (g:Nat) (tt:TypeId) (cs:Array Value) (d:TypeDesc)
 (hp:tmps.getD p undef=.pointer (some ⟨g,0,none⟩)) (hg:Blk w g tt cs)
 (hu:P.underlying ty=some d) (hd:(match d with | .struct _ | .array _ _=>true | _=>false)=true) (hi:(P.info? ty).map (·.size)=some cs.size) :
 (results fn tmps).run P w=.ok (.agg cs) w:=by
 have hp':tmps[p]?.getD undef=.pointer (some ⟨g,0,none⟩):=by simpa using hp
 simp [results,h,hp',asAddr,run_loadVar_row w g tt ty cs (0,0) d hg hu hd hi]
structure TreeOk (n₀ gt bn ba:Nat) (T:Array Value) (w:World):Prop where
 at_:∀(k:Nat) (W:World),TW n₀ gt bn ba T w k W→k≤1000000→∀m:Int,0<m∧m≤1000→Calls Tryz.prog 10 #[.int .i64 m,.pointer (some ⟨bn,0,none⟩),.pointer (some ⟨gt,0,none⟩)] W fun e W'=>(∃y:Int,e=.returned (.int .i64 y)∧0≤y∧y<m)∧AtR 1 bn W W'
theorem treeOk {n₀ gt bn ba r z l s:Nat} {v:Value} {ls:List Nat} {w:World} (hr:RowsAt w n₀ 1 encY8 v ls) (hls:∀x ∈ ls,x<256):TreeOk n₀ gt bn ba (treeC r z l s v) w:=⟨fun k W h hk m hm=>tat_any h hr hls hk m hm⟩
def DayV (u:Value) (_:World):Prop:=∃k wk d:Int,u=.agg #[.int .i64 k,.int .i64 wk,.int .i64 d]∧rightDay k wk d=true
def ClockV (u:Value) (_:World):Prop:=∃x b:Int,u=.agg #[.int .i64 x,.int .i64 b]∧clockOk x b=true
def DaysL (L:Nat) (u:Value) (W:World):Prop:=∃(g:Nat) (a b c a' b' c' a2 b2 c2 a3 b3 c3:Int),u=.slice (some ⟨g,0,none⟩) 4 4∧Blk W g 48 #[.int .i64 a,.int .i64 b,.int .i64 c,.int .i64 a',.int .i64 b',.int .i64 c',.int .i64 a2,.int .i64 b2,.int .i64 c2,.int .i64 a3,.int .i64 b3,.int .i64 c3]∧L≤g∧rightDay a b c=true∧rightDay a' b' c'=true∧rightDay a2 b2 c2=true∧rightDay a3 b3 c3=true
def DayP (L:Nat) (u:Value) (W:World):Prop:=∃(g i:Nat) (C:Array Value) (a b c:Int),u=.pointer (some ⟨g,i,none⟩)∧Blk W g 48 C∧L≤g∧(i=0∨i=3∨i=6∨i=9)∧C[i]? = some (.int .i64 a)∧C[i+1]? = some (.int .i64 b)∧C[i+2]? = some (.int .i64 c)∧rightDay a b c=true
section
variable {c bn L:Nat}
theorem DayV.lasts:LastsA c bn DayV:=fun _ _ _ _ h=>h
theorem ClockV.lasts:LastsA c bn ClockV:=fun _ _ _ _ h=>h
theorem DaysL.lasts (h:bn<L):LastsA c bn (DaysL L):=fun u w w' hA ⟨g,a1,a2,a3,a4,a5,a6,a7,a8,a9,b1,b2,b3,e,hb,hl,r⟩=>⟨g,a1,a2,a3,a4,a5,a6,a7,a8,a9,b1,b2,b3,e,hA.blk hb (by omega),hl,r⟩
theorem DayP.lasts (h:bn<L):LastsA c bn (DayP L):=fun u w w' hA ⟨g,i,C,a1,a2,a3,e,hb,hl,r⟩=>⟨g,i,C,a1,a2,a3,e,hA.blk hb (by omega),hl,r⟩
end
structure DW (bn gr T:Nat) (Z:Array Value) (W0:World) (k:Nat) (W:World):Prop where
 at_:AtR k bn W0 W
 res:Blk W gr T Z
theorem DW.step {bn gr T k:Nat} {Z:Array Value} {W0 W W':World} (h:DW bn gr T Z W0 k W) (hn:gr≠bn) (ha:AtR 1 bn W W'):DW bn gr T Z W0 (k+1) W':=⟨h.at_.trans ha,ha.blk h.res hn⟩
theorem rd1 {y:Int} (h0:1≤y) (h1:y≤31):rightDay 1 0 y=true:=by unfold rightDay;simp;omega
theorem rd2 {y:Int} (h0:0≤y) (h1:y≤6):rightDay 2 y 0=true:=by unfold rightDay;simp;omega
theorem rd3 {x y:Int} (h0:0≤x) (h1:x≤6) (h2:1≤y) (h3:y≤31):rightDay 3 x y=true:=by unfold rightDay;simp;omega
theorem rd4 {x y:Int} (h0:0≤x) (h1:x≤6) (h2:1≤y) (h3:y≤31):rightDay 4 x y=true:=by unfold rightDay;simp;omega
theorem tday_any {n₀ gt bn ba k:Nat} {T:Array Value} {w V:World} (h:TW n₀ gt bn ba T w k V) (ho:TreeOk n₀ gt bn ba T w) (hk:k≤900000) :
 Calls Tryz.prog 11 #[.pointer (some ⟨ba,0,none⟩)] V fun e W'=>(∃u,e=.returned u∧DayV u W')∧AtR 24 bn V W':=by
 have HTO:=hid ho;have HTW:=hid (fun c W' (ha:AtR c bn V W')=>h.at_ ha);have HLE:=hid h.le;have hnb:bn<V.heap.size:=by obtain ⟨j,hj,_⟩:=h.cnt;exact hj.lt
 have HA0:=hid (show AtR 0 bn V (V.alloc (.cells #[.int .i64 0,.int .i64 0,.int .i64 0] 48)) from AtR.of_below ((Below.refl _ _).alloc (Nat.le_refl _) _));have HZ0:=hid (show Blk (V.alloc (.cells #[.int .i64 0,.int .i64 0,.int .i64 0] 48)) V.heap.size 48 #[.int .i64 0,.int .i64 0,.int .i64 0] from Blk.new' _ _ _ rfl);clear h ho
 go_enter Tryz.func11,Tryz.ntmps11
 go_upto_region 1 with fail
 obtain ⟨L,hL⟩:∃L,V.heap.size=L:=⟨_,rfl⟩;have HLs:=hid (show ∀c W',AtR c bn V W'→L≤W'.heap.size from fun c W' ha=>by rw [←hL];exact ha.size);have HLb:=hid (show bn<L from by rw [←hL];exact hnb);clear hL;generalize V.alloc (.cells #[.int .i64 0,.int .i64 0,.int .i64 0] 48)=W1 at *;have HGB:=hid (show ∀w w2:World,Below w.heap.size w w2→(AtR 1 bn) w w2 from fun w w2 h=>AtR.of_below h);refine wp_region_at 24 [[],[],[1],[2],[],[],[5],[],[],[],[],[10],[8,11],[],[],[],[],[16],[14,17],[3,6,12,18],[],[],[19,21],[22]] [Form.val,Form.rel (IntIn 0 30),Form.rel (IntIn 1 31),Form.rel (DayV),Form.val,Form.rel (IntIn 0 6),Form.rel (DayV),Form.val,Form.rel (IntIn 0 6),Form.val,Form.rel (IntIn 0 30),Form.rel (IntIn 1 31),Form.rel (DayV),Form.val,Form.rel (IntIn 0 6),Form.val,Form.rel (IntIn 0 30),Form.rel (IntIn 1 31),Form.rel (DayV),Form.rel (DaysL L),Form.val,Form.rel (IntIn 0 3),Form.rel (DayP L),Form.rel (DayV)] 1000 1 bn (AtR 1 bn) (fun k W2=>DW bn V.heap.size 48 #[.int .i64 0,.int .i64 0,.int .i64 0] V k W2) (0) (by kernel_rfl) (by kernel_rfl) rfl rfl (fun w=>AtR.of_below (Below.refl _ _)) (fun _ _ h=>h.size) (⟨HA0.out.then_ (Below.refl _ _).drew,HZ0.out.below (Below.refl _ _).drew HZ0.out.lt⟩) (fun k w1 w2 h ha=>h.step (by omega) ha) (fun k w1 w2 h ha=>h.step (by omega) ha) ⟨(IntIn.lasts _ _).one,(IntIn.lasts _ _).one,DayV.lasts.one,(IntIn.lasts _ _).one,DayV.lasts.one,(IntIn.lasts _ _).one,(IntIn.lasts _ _).one,(IntIn.lasts _ _).one,DayV.lasts.one,(IntIn.lasts _ _).one,(IntIn.lasts _ _).one,(IntIn.lasts _ _).one,DayV.lasts.one,(DaysL.lasts HLb.out).one,(IntIn.lasts _ _).one,(DayP.lasts HLb.out).one,DayV.lasts.one,trivial⟩ ?_
 repeat (first|apply exSpec_rel|apply exSpec_new|apply exSpec_val)
 apply relWalkN_ex rfl (fun _ _ h=>RAt.of_below HGB.out h) ?od0 (fun K hK=>?nd0)
 case od0 =>
  intro W hC hF;obtain ⟨f,hfn,hI⟩:=hC;have hTW:=HTW.out _ W hI.at_;have cf:W.cell? ⟨ba,0,none⟩=some (.func (.func 10) #[] #[.pointer (some ⟨bn,0,none⟩),.pointer (some ⟨gt,0,none⟩)]):=hTW.fn.cell_ rfl;go_simp;exact ⟨Below.refl _ _,rfl⟩
 case' nd0 =>
  go_simp;refine hK _ ?_;clear hK K
 apply relWalkN_at rfl (G:=AtR 1 bn) (by first|rfl|exact if_neg (by decide)) ?od1 (fun u1 K hK=>?nd1)
 case od1 =>
  intro W hC hF;obtain ⟨f,hfn,hI⟩:=hC;have hTW:=HTW.out _ W hI.at_;go_simp;exact (HTO.out.at_ _ _ hTW (by omega) 31 (by decide)).mono fun e w2 ⟨⟨y,he,h0,h1⟩,hb⟩=>⟨_,he,hb,_,rfl,h0,by omega⟩
 case' nd1 =>
  go_simp;refine hK _ ?_;clear hK K
 apply relWalkN_rel rfl (fun _ _ h=>RAt.of_below HGB.out h) ?od2 (fun u2 K hK=>?nd2)
 case od2 =>
  intro W hC hF;obtain ⟨f,hfn,hI⟩:=hC;obtain ⟨⟨y,rfl,h0,h1⟩,-⟩:=hF;have hw:IntKind.i64.wrap (1+y)=1+y:=IntWalk.i64_in _ (by omega);go_simp;exact ⟨Below.refl _ _,_,rfl,by omega,by omega⟩
 case' nd2 =>
  go_simp;refine hK _ ?_;clear hK K
 apply relWalkN_rel rfl (fun _ _ h=>RAt.of_below HGB.out h) ?od3 (fun u3 K hK=>?nd3)
 case od3 =>
  intro W hC hF;obtain ⟨f,hfn,hI⟩:=hC;obtain ⟨⟨y,rfl,h0,h1⟩,-⟩:=hF;go_simp;exact ⟨Below.refl _ _,1,0,y,rfl,rd1 h0 h1⟩
 case' nd3 =>
  go_simp;refine hK _ ?_;clear hK K
 apply relWalkN_ex rfl (fun _ _ h=>RAt.of_below HGB.out h) ?od4 (fun K hK=>?nd4)
 case od4 =>
  intro W hC hF;obtain ⟨f,hfn,hI⟩:=hC;have hTW:=HTW.out _ W hI.at_;have cf:W.cell? ⟨ba,0,none⟩=some (.func (.func 10) #[] #[.pointer (some ⟨bn,0,none⟩),.pointer (some ⟨gt,0,none⟩)]):=hTW.fn.cell_ rfl;go_simp;exact ⟨Below.refl _ _,rfl⟩
 case' nd4 =>
  go_simp;refine hK _ ?_;clear hK K
 apply relWalkN_at rfl (G:=AtR 1 bn) (by first|rfl|exact if_neg (by decide)) ?od5 (fun u5 K hK=>?nd5)
 case od5 =>
  intro W hC hF;obtain ⟨f,hfn,hI⟩:=hC;have hTW:=HTW.out _ W hI.at_;go_simp;exact (HTO.out.at_ _ _ hTW (by omega) 7 (by decide)).mono fun e w2 ⟨⟨y,he,h0,h1⟩,hb⟩=>⟨_,he,hb,_,rfl,h0,by omega⟩
 case' nd5 =>
  go_simp;refine hK _ ?_;clear hK K
 apply relWalkN_rel rfl (fun _ _ h=>RAt.of_below HGB.out h) ?od6 (fun u6 K hK=>?nd6)
 case od6 =>
  intro W hC hF;obtain ⟨f,hfn,hI⟩:=hC;obtain ⟨⟨y,rfl,h0,h1⟩,-⟩:=hF;go_simp;exact ⟨Below.refl _ _,2,y,0,rfl,rd2 h0 h1⟩
 case' nd6 =>
  go_simp;refine hK _ ?_;clear hK K
 apply relWalkN_ex rfl (fun _ _ h=>RAt.of_below HGB.out h) ?od7 (fun K hK=>?nd7)
 case od7 =>
  intro W hC hF;obtain ⟨f,hfn,hI⟩:=hC;have hTW:=HTW.out _ W hI.at_;have cf:W.cell? ⟨ba,0,none⟩=some (.func (.func 10) #[] #[.pointer (some ⟨bn,0,none⟩),.pointer (some ⟨gt,0,none⟩)]):=hTW.fn.cell_ rfl;go_simp;exact ⟨Below.refl _ _,rfl⟩
 case' nd7 =>
  go_simp;refine hK _ ?_;clear hK K
 apply relWalkN_at rfl (G:=AtR 1 bn) (by first|rfl|exact if_neg (by decide)) ?od8 (fun u8 K hK=>?nd8)
 case od8 =>
  intro W hC hF;obtain ⟨f,hfn,hI⟩:=hC;have hTW:=HTW.out _ W hI.at_;go_simp;exact (HTO.out.at_ _ _ hTW (by omega) 7 (by decide)).mono fun e w2 ⟨⟨y,he,h0,h1⟩,hb⟩=>⟨_,he,hb,_,rfl,h0,by omega⟩
 case' nd8 =>
  go_simp;refine hK _ ?_;clear hK K
 apply relWalkN_ex rfl (fun _ _ h=>RAt.of_below HGB.out h) ?od9 (fun K hK=>?nd9)
 case od9 =>
  intro W hC hF;obtain ⟨f,hfn,hI⟩:=hC;have hTW:=HTW.out _ W hI.at_;have cf:W.cell? ⟨ba,0,none⟩=some (.func (.func 10) #[] #[.pointer (some ⟨bn,0,none⟩),.pointer (some ⟨gt,0,none⟩)]):=hTW.fn.cell_ rfl;go_simp;exact ⟨Below.refl _ _,rfl⟩
 case' nd9 =>
  go_simp;refine hK _ ?_;clear hK K
 apply relWalkN_at rfl (G:=AtR 1 bn) (by first|rfl|exact if_neg (by decide)) ?od10 (fun u10 K hK=>?nd10)
 case od10 =>
  intro W hC hF;obtain ⟨f,hfn,hI⟩:=hC;have hTW:=HTW.out _ W hI.at_;go_simp;exact (HTO.out.at_ _ _ hTW (by omega) 31 (by decide)).mono fun e w2 ⟨⟨y,he,h0,h1⟩,hb⟩=>⟨_,he,hb,_,rfl,h0,by omega⟩
 case' nd10 =>
  go_simp;refine hK _ ?_;clear hK K
 apply relWalkN_rel rfl (fun _ _ h=>RAt.of_below HGB.out h) ?od11 (fun u11 K hK=>?nd11)
 case od11 =>
  intro W hC hF;obtain ⟨f,hfn,hI⟩:=hC;obtain ⟨⟨y,rfl,h0,h1⟩,-⟩:=hF;have hw:IntKind.i64.wrap (1+y)=1+y:=IntWalk.i64_in _ (by omega);go_simp;exact ⟨Below.refl _ _,_,rfl,by omega,by omega⟩
 case' nd11 =>
  go_simp;refine hK _ ?_;clear hK K
 apply relWalkN_rel rfl (fun _ _ h=>RAt.of_below HGB.out h) ?od12 (fun u12 K hK=>?nd12)
 case od12 =>
  intro W hC hF;obtain ⟨f,hfn,hI⟩:=hC;obtain ⟨⟨x,rfl,h0,h1⟩,⟨y,rfl,h2,h3⟩,-⟩:=hF;go_simp;exact ⟨Below.refl _ _,3,x,y,rfl,rd3 h0 h1 h2 h3⟩
 case' nd12 =>
  go_simp;refine hK _ ?_;clear hK K
 apply relWalkN_ex rfl (fun _ _ h=>RAt.of_below HGB.out h) ?od13 (fun K hK=>?nd13)
 case od13 =>
  intro W hC hF;obtain ⟨f,hfn,hI⟩:=hC;have hTW:=HTW.out _ W hI.at_;have cf:W.cell? ⟨ba,0,none⟩=some (.func (.func 10) #[] #[.pointer (some ⟨bn,0,none⟩),.pointer (some ⟨gt,0,none⟩)]):=hTW.fn.cell_ rfl;go_simp;exact ⟨Below.refl _ _,rfl⟩
 case' nd13 =>
  go_simp;refine hK _ ?_;clear hK K
 apply relWalkN_at rfl (G:=AtR 1 bn) (by first|rfl|exact if_neg (by decide)) ?od14 (fun u14 K hK=>?nd14)
 case od14 =>
  intro W hC hF;obtain ⟨f,hfn,hI⟩:=hC;have hTW:=HTW.out _ W hI.at_;go_simp;exact (HTO.out.at_ _ _ hTW (by omega) 7 (by decide)).mono fun e w2 ⟨⟨y,he,h0,h1⟩,hb⟩=>⟨_,he,hb,_,rfl,h0,by omega⟩
 case' nd14 =>
  go_simp;refine hK _ ?_;clear hK K
 apply relWalkN_ex rfl (fun _ _ h=>RAt.of_below HGB.out h) ?od15 (fun K hK=>?nd15)
 case od15 =>
  intro W hC hF;obtain ⟨f,hfn,hI⟩:=hC;have hTW:=HTW.out _ W hI.at_;have cf:W.cell? ⟨ba,0,none⟩=some (.func (.func 10) #[] #[.pointer (some ⟨bn,0,none⟩),.pointer (some ⟨gt,0,none⟩)]):=hTW.fn.cell_ rfl;go_simp;exact ⟨Below.refl _ _,rfl⟩
 case' nd15 =>
  go_simp;refine hK _ ?_;clear hK K
 apply relWalkN_at rfl (G:=AtR 1 bn) (by first|rfl|exact if_neg (by decide)) ?od16 (fun u16 K hK=>?nd16)
 case od16 =>
  intro W hC hF;obtain ⟨f,hfn,hI⟩:=hC;have hTW:=HTW.out _ W hI.at_;go_simp;exact (HTO.out.at_ _ _ hTW (by omega) 31 (by decide)).mono fun e w2 ⟨⟨y,he,h0,h1⟩,hb⟩=>⟨_,he,hb,_,rfl,h0,by omega⟩
 case' nd16 =>
  go_simp;refine hK _ ?_;clear hK K
 apply relWalkN_rel rfl (fun _ _ h=>RAt.of_below HGB.out h) ?od17 (fun u17 K hK=>?nd17)
 case od17 =>
  intro W hC hF;obtain ⟨f,hfn,hI⟩:=hC;obtain ⟨⟨y,rfl,h0,h1⟩,-⟩:=hF;have hw:IntKind.i64.wrap (1+y)=1+y:=IntWalk.i64_in _ (by omega);go_simp;exact ⟨Below.refl _ _,_,rfl,by omega,by omega⟩
 case' nd17 =>
  go_simp;refine hK _ ?_;clear hK K
 apply relWalkN_rel rfl (fun _ _ h=>RAt.of_below HGB.out h) ?od18 (fun u18 K hK=>?nd18)
 case od18 =>
  intro W hC hF;obtain ⟨f,hfn,hI⟩:=hC;obtain ⟨⟨x,rfl,h0,h1⟩,⟨y,rfl,h2,h3⟩,-⟩:=hF;go_simp;exact ⟨Below.refl _ _,4,x,y,rfl,rd4 h0 h1 h2 h3⟩
 case' nd18 =>
  go_simp;refine hK _ ?_;clear hK K
 apply relWalkN_rel rfl (fun _ _ h=>RAt.of_below HGB.out h) ?od19 (fun u19 K hK=>?nd19)
 case od19 =>
  intro W hC hF;obtain ⟨f,hfn,hI⟩:=hC;obtain ⟨⟨a1,a2,a3,rfl,r1⟩,⟨b1,b2,b3,rfl,r2⟩,⟨c1,c2,c3,rfl,r3⟩,⟨d1,d2,d3,rfl,r4⟩,-⟩:=hF;have hL9:=HLs.out _ W hI.at_;go_simp;exact ⟨(Below.refl _ _).alloc (Nat.le_refl _) _,_,a1,a2,a3,b1,b2,b3,c1,c2,c3,d1,d2,d3,rfl,Blk.new' _ _ _ rfl,hL9,r1,r2,r3,r4⟩
 case' nd19 =>
  go_simp;refine hK _ ?_;clear hK K
 apply relWalkN_ex rfl (fun _ _ h=>RAt.of_below HGB.out h) ?od20 (fun K hK=>?nd20)
 case od20 =>
  intro W hC hF;obtain ⟨f,hfn,hI⟩:=hC;have hTW:=HTW.out _ W hI.at_;have cf:W.cell? ⟨ba,0,none⟩=some (.func (.func 10) #[] #[.pointer (some ⟨bn,0,none⟩),.pointer (some ⟨gt,0,none⟩)]):=hTW.fn.cell_ rfl;go_simp;exact ⟨Below.refl _ _,rfl⟩
 case' nd20 =>
  go_simp;refine hK _ ?_;clear hK K
 apply relWalkN_at rfl (G:=AtR 1 bn) (by first|rfl|exact if_neg (by decide)) ?od21 (fun u21 K hK=>?nd21)
 case od21 =>
  intro W hC hF;obtain ⟨f,hfn,hI⟩:=hC;have hTW:=HTW.out _ W hI.at_;go_simp;exact (HTO.out.at_ _ _ hTW (by omega) 4 (by decide)).mono fun e w2 ⟨⟨y,he,h0,h1⟩,hb⟩=>⟨_,he,hb,_,rfl,h0,by omega⟩
 case' nd21 =>
  go_simp;refine hK _ ?_;clear hK K
 apply relWalkN_rel rfl (fun _ _ h=>RAt.of_below HGB.out h) ?od22 (fun u22 K hK=>?nd22)
 case od22 =>
  intro W hC hF;obtain ⟨f,hfn,hI⟩:=hC;obtain ⟨⟨g,a1,a2,a3,b1,b2,b3,c1,c2,c3,d1,d2,d3,rfl,hb,hl,r1,r2,r3,r4⟩,⟨y,rfl,h0,h1⟩,-⟩:=hF
  rcases (by omega:y=0∨y=1∨y=2∨y=3) with rfl|rfl|rfl|rfl
  ·go_simp
   exact ⟨Below.refl _ _,g,0,_,a1,a2,a3,rfl,hb,hl,.inl rfl,rfl,rfl,rfl,r1⟩
  ·go_simp
   exact ⟨Below.refl _ _,g,3,_,b1,b2,b3,rfl,hb,hl,.inr (.inl rfl),rfl,rfl,rfl,r2⟩
  ·go_simp
   exact ⟨Below.refl _ _,g,6,_,c1,c2,c3,rfl,hb,hl,.inr (.inr (.inl rfl)),rfl,rfl,rfl,r3⟩
  ·go_simp
   exact ⟨Below.refl _ _,g,9,_,d1,d2,d3,rfl,hb,hl,.inr (.inr (.inr rfl)),rfl,rfl,rfl,r4⟩
 case' nd22 =>
  go_simp;refine hK _ ?_;clear hK K
 apply relWalkN_rel rfl (fun _ _ h=>RAt.of_below HGB.out h) ?od23 (fun u23 K hK=>?nd23)
 case od23 =>
  intro W hC hF;obtain ⟨f,hfn,hI⟩:=hC;obtain ⟨⟨g,i,C,a1,a2,a3,rfl,hb,hl,hi,e0,e1,e2,hr⟩,-⟩:=hF
  rcases hi with rfl|rfl|rfl|rfl
  ·have q0:W.cell? ⟨g,0,none⟩=_:=hb.cell_ e0
   have q1:W.cell? ⟨g,1,none⟩=_:=hb.cell_ e1;have q2:W.cell? ⟨g,2,none⟩=_:=hb.cell_ e2;go_simp;exact ⟨Below.refl _ _,a1,a2,a3,rfl,hr⟩
  ·have q0:W.cell? ⟨g,3,none⟩=_:=hb.cell_ e0
   have q1:W.cell? ⟨g,4,none⟩=_:=hb.cell_ e1;have q2:W.cell? ⟨g,5,none⟩=_:=hb.cell_ e2;go_simp;exact ⟨Below.refl _ _,a1,a2,a3,rfl,hr⟩
  ·have q0:W.cell? ⟨g,6,none⟩=_:=hb.cell_ e0
   have q1:W.cell? ⟨g,7,none⟩=_:=hb.cell_ e1;have q2:W.cell? ⟨g,8,none⟩=_:=hb.cell_ e2;go_simp;exact ⟨Below.refl _ _,a1,a2,a3,rfl,hr⟩
  ·have q0:W.cell? ⟨g,9,none⟩=_:=hb.cell_ e0
   have q1:W.cell? ⟨g,10,none⟩=_:=hb.cell_ e1;have q2:W.cell? ⟨g,11,none⟩=_:=hb.cell_ e2;go_simp;exact ⟨Below.refl _ _,a1,a2,a3,rfl,hr⟩
 case' nd23 =>
  go_simp;refine hK _ ?_;clear hK K
 apply relWalkT_end
 intro W hC hF hU;obtain ⟨f,hfn,hI⟩:=hC;obtain ⟨hF0,-⟩:=hF;obtain ⟨a1,a2,a3,rfl,hr⟩:=hF0;have HI:=hid hI;have HR:=hid hr;have z0:=hI.res.cell_ (i:=0) rfl;have z1:=hI.res.cell_ (i:=1) rfl;have z2:=hI.res.cell_ (i:=2) rfl;have f0:=hI.res.frozen 0;have f1:=hI.res.frozen 1;have f2:=hI.res.frozen 2;clear hI hr hU hfn;go_wp2_with fail
 have HB9:=hid (show Blk ((((W.setCell ⟨V.heap.size,0,none⟩ (.int .i64 a1)).setCell ⟨V.heap.size,1,none⟩ (.int .i64 a2)).setCell ⟨V.heap.size,2,none⟩ (.int .i64 a3))) V.heap.size 48 #[.int .i64 a1,.int .i64 a2,.int .i64 a3] from (((HI.out.res.set_ 0 _).set_ 1 _).set_ 2 _));refine bodyPost_ret (results_cell1 rfl _ _ V.heap.size 48 #[.int .i64 a1,.int .i64 a2,.int .i64 a3] _ rfl HB9.out Tryz.underlying48 rfl (by kernel_rfl)) rfl ⟨⟨_,rfl,a1,a2,a3,rfl,HR.out⟩,AtR.mono (((HI.out.at_.far (Nat.le_refl _) (by omega) _).far (Nat.le_refl _) (by omega) _).far (Nat.le_refl _) (by omega) _) (by omega)⟩
theorem tclock_any {n₀ gt bn ba k:Nat} {T:Array Value} {w V:World} (h:TW n₀ gt bn ba T w k V) (ho:TreeOk n₀ gt bn ba T w) (hk:k≤900000) :
 Calls Tryz.prog 12 #[.pointer (some ⟨ba,0,none⟩)] V fun e W'=>(∃u,e=.returned u∧ClockV u W')∧AtR 24 bn V W':=by
 have HTO:=hid ho;have HTW:=hid (fun c W' (ha:AtR c bn V W')=>h.at_ ha);have HLE:=hid h.le;have hnb:bn<V.heap.size:=by obtain ⟨j,hj,_⟩:=h.cnt;exact hj.lt
 have HA0:=hid (show AtR 0 bn V (V.alloc (.cells #[.int .i64 0,.int .i64 0] 52)) from AtR.of_below ((Below.refl _ _).alloc (Nat.le_refl _) _));have HZ0:=hid (show Blk (V.alloc (.cells #[.int .i64 0,.int .i64 0] 52)) V.heap.size 52 #[.int .i64 0,.int .i64 0] from Blk.new' _ _ _ rfl);clear h ho
 go_enter Tryz.func12,Tryz.ntmps12
 go_upto_region 1 with fail
 obtain ⟨L,hL⟩:∃L,V.heap.size=L:=⟨_,rfl⟩;have HLs:=hid (show ∀c W',AtR c bn V W'→L≤W'.heap.size from fun c W' ha=>by rw [←hL];exact ha.size);have HLb:=hid (show bn<L from by rw [←hL];exact hnb);clear hL;generalize V.alloc (.cells #[.int .i64 0,.int .i64 0] 52)=W1 at *;have HGB:=hid (show ∀w w2:World,Below w.heap.size w w2→(AtR 1 bn) w w2 from fun w w2 h=>AtR.of_below h);refine wp_region_at 7 [[],[],[1],[2],[],[],[3,5]] [Form.val,Form.rel (IntIn 0 199),Form.rel (IntIn 0 179100),Form.rel (IntIn (-3600) 175500),Form.val,Form.rel (IntIn 0 2),Form.rel (ClockV)] 1000 1 bn (AtR 1 bn) (fun k W2=>DW bn V.heap.size 52 #[.int .i64 0,.int .i64 0] V k W2) (0) (by kernel_rfl) (by kernel_rfl) rfl rfl (fun w=>AtR.of_below (Below.refl _ _)) (fun _ _ h=>h.size) (⟨HA0.out.then_ (Below.refl _ _).drew,HZ0.out.below (Below.refl _ _).drew HZ0.out.lt⟩) (fun k w1 w2 h ha=>h.step (by omega) ha) (fun k w1 w2 h ha=>h.step (by omega) ha) ⟨(IntIn.lasts _ _).one,(IntIn.lasts _ _).one,(IntIn.lasts _ _).one,(IntIn.lasts _ _).one,ClockV.lasts.one,trivial⟩ ?_
 repeat (first|apply exSpec_rel|apply exSpec_new|apply exSpec_val)
 apply relWalkN_ex rfl (fun _ _ h=>RAt.of_below HGB.out h) ?oc0 (fun K hK=>?nc0)
 case oc0 =>
  intro W hC hF;obtain ⟨f,hfn,hI⟩:=hC;have hTW:=HTW.out _ W hI.at_;have cf:W.cell? ⟨ba,0,none⟩=some (.func (.func 10) #[] #[.pointer (some ⟨bn,0,none⟩),.pointer (some ⟨gt,0,none⟩)]):=hTW.fn.cell_ rfl;go_simp;exact ⟨Below.refl _ _,rfl⟩
 case' nc0 =>
  go_simp;refine hK _ ?_;clear hK K
 apply relWalkN_at rfl (G:=AtR 1 bn) (by first|rfl|exact if_neg (by decide)) ?oc1 (fun u1 K hK=>?nc1)
 case oc1 =>
  intro W hC hF;obtain ⟨f,hfn,hI⟩:=hC;have hTW:=HTW.out _ W hI.at_;go_simp;exact (HTO.out.at_ _ _ hTW (by omega) 200 (by decide)).mono fun e w2 ⟨⟨y,he,h0,h1⟩,hb⟩=>⟨_,he,hb,_,rfl,h0,by omega⟩
 case' nc1 =>
  go_simp;refine hK _ ?_;clear hK K
 apply relWalkN_rel rfl (fun _ _ h=>RAt.of_below HGB.out h) ?oc2 (fun u2 K hK=>?nc2)
 case oc2 =>
  intro W hC hF;obtain ⟨f,hfn,hI⟩:=hC;obtain ⟨⟨y,rfl,h0,h1⟩,-⟩:=hF;have hw:IntKind.i64.wrap (y*900)=y*900:=IntWalk.i64_in _ (by omega);go_simp;exact ⟨Below.refl _ _,_,rfl,by omega,by omega⟩
 case' nc2 =>
  go_simp;refine hK _ ?_;clear hK K
 apply relWalkN_rel rfl (fun _ _ h=>RAt.of_below HGB.out h) ?oc3 (fun u3 K hK=>?nc3)
 case oc3 =>
  intro W hC hF;obtain ⟨f,hfn,hI⟩:=hC;obtain ⟨⟨y,rfl,h0,h1⟩,-⟩:=hF;have hw:IntKind.i64.wrap (y-3600)=y-3600:=IntWalk.i64_in _ (by omega);go_simp;exact ⟨Below.refl _ _,_,rfl,by omega,by omega⟩
 case' nc3 =>
  go_simp;refine hK _ ?_;clear hK K
 apply relWalkN_ex rfl (fun _ _ h=>RAt.of_below HGB.out h) ?oc4 (fun K hK=>?nc4)
 case oc4 =>
  intro W hC hF;obtain ⟨f,hfn,hI⟩:=hC;have hTW:=HTW.out _ W hI.at_;have cf:W.cell? ⟨ba,0,none⟩=some (.func (.func 10) #[] #[.pointer (some ⟨bn,0,none⟩),.pointer (some ⟨gt,0,none⟩)]):=hTW.fn.cell_ rfl;go_simp;exact ⟨Below.refl _ _,rfl⟩
 case' nc4 =>
  go_simp;refine hK _ ?_;clear hK K
 apply relWalkN_at rfl (G:=AtR 1 bn) (by first|rfl|exact if_neg (by decide)) ?oc5 (fun u5 K hK=>?nc5)
 case oc5 =>
  intro W hC hF;obtain ⟨f,hfn,hI⟩:=hC;have hTW:=HTW.out _ W hI.at_;go_simp;exact (HTO.out.at_ _ _ hTW (by omega) 3 (by decide)).mono fun e w2 ⟨⟨y,he,h0,h1⟩,hb⟩=>⟨_,he,hb,_,rfl,h0,by omega⟩
 case' nc5 =>
  go_simp;refine hK _ ?_;clear hK K
 apply relWalkN_rel rfl (fun _ _ h=>RAt.of_below HGB.out h) ?oc6 (fun u6 K hK=>?nc6)
 case oc6 =>
  intro W hC hF;obtain ⟨f,hfn,hI⟩:=hC;obtain ⟨⟨x,rfl,h0,h1⟩,⟨y,rfl,h2,h3⟩,-⟩:=hF;go_simp;exact ⟨Below.refl _ _,x,y,rfl,by unfold clockOk;simp;omega⟩
 case' nc6 =>
  go_simp;refine hK _ ?_;clear hK K
 apply relWalkT_end
 intro W hC hF hU;obtain ⟨f,hfn,hI⟩:=hC;obtain ⟨hF0,-⟩:=hF;obtain ⟨a1,a2,rfl,hr⟩:=hF0;have HI:=hid hI;have HR:=hid hr;have z0:=hI.res.cell_ (i:=0) rfl;have z1:=hI.res.cell_ (i:=1) rfl;have f0:=hI.res.frozen 0;have f1:=hI.res.frozen 1;clear hI hr hU hfn;go_wp2_with fail
 have HB9:=hid (show Blk (((W.setCell ⟨V.heap.size,0,none⟩ (.int .i64 a1)).setCell ⟨V.heap.size,1,none⟩ (.int .i64 a2))) V.heap.size 52 #[.int .i64 a1,.int .i64 a2] from ((HI.out.res.set_ 0 _).set_ 1 _));refine bodyPost_ret (results_cell1 rfl _ _ V.heap.size 52 #[.int .i64 a1,.int .i64 a2] _ rfl HB9.out Tryz.underlying52 rfl (by kernel_rfl)) rfl ⟨⟨_,rfl,a1,a2,rfl,HR.out⟩,AtR.mono ((HI.out.at_.far (Nat.le_refl _) (by omega) _).far (Nat.le_refl _) (by omega) _) (by omega)⟩
end Go.Proofs.YtboagmbmmoomiaaGreatDoor
