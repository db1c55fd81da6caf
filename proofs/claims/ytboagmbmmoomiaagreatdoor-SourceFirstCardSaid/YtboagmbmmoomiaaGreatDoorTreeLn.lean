/-
  The lines of a source of layer 13: lines without fields, and the adding of a line.
-/
import Derived.Test.YtboagmbmmoomiaaGreatDoorRelRows
import Derived.Test.YtboagmbmmoomiaaGreatDoorSrcOwn
import Derived.Test.YtboagmbmmoomiaaGreatDoorSrcRd
import Derived.Test.YtboagmbmmoomiaaGreatDoorSrcBack
set_option linter.unusedVariables false
set_option linter.unusedSimpArgs false
set_option maxRecDepth 100000
set_option maxHeartbeats 4000000
namespace Go.Proofs.YtboagmbmmoomiaaGreatDoor
open Go.Lib (hid)
open Go.RowKit Go.Shelf
def padB (j:Nat):List UInt8:=if j=0 then [] else if j=1 then [35,32,90,111,110,101,32,88,32,48,58,48,48,32,45,32,89] else if j=2 then [32,9,32] else if j=3 then [32,32,35,32,34] else [35]
theorem padB_is (j:Nat):LineIs (padB j) []:=by
 unfold padB
 split
 ·exact ⟨by decide,by decide,by decide +kernel⟩
 split
 ·exact ⟨by decide,by decide,by decide +kernel⟩
 split
 ·exact ⟨by decide,by decide,by decide +kernel⟩
 split
 ·exact ⟨by decide,by decide,by decide +kernel⟩
 ·exact ⟨by decide,by decide,by decide +kernel⟩
def PadV (u:Value) (_:World):Prop:=∃s:List UInt8,u=.string ⟨s.toArray⟩∧LineIs s []
def PadOne (L:Nat) (u:Value) (W:World):Prop:=∃s:List UInt8,One 9 L (encS s) u W∧LineIs s []
def PadRow (B L:Nat) (v:Value) (M:List (List UInt8)) (u:Value) (W:World):Prop:=∃s:List UInt8,GrownR 9 1 B L v (M.length+1) (flatC encS (M++[s])) u W∧LineIs s []
theorem PadOne.lg {e k B n L:Nat} {xs:List Value} {v:Value} (hL:Low L v):LastsG (GOwn e k B n xs v) (PadOne L):=fun u w w' hG ⟨s,⟨g,h1,h2,h3⟩,h4⟩=>⟨s,⟨g,h1,(hG.1.block g h2.lt (fun hh=>by have:=hL g hh.symm;omega)).trans h2,h3⟩,h4⟩
theorem PadRow.last {B L:Nat} {v:Value} {M:List (List UInt8)} : Lasts (PadRow B L v M):=fun u w w' hb ⟨s,h,hs⟩=>⟨s,GrownR.last u w w' hb h,hs⟩
theorem padV_lg {G:World→World→Prop} : LastsG G PadV:=fun _ _ _ _ h=>h
theorem pad_any (n:Nat) (w:World) (hn:n≤1048576):Calls Tryz.prog 14 #[.int .i64 (n:Int)] w fun e w'=>(∃u,e=.returned u∧PadV u w')∧Below w.heap.size w w':=by
 obtain ⟨j,hj⟩:∃j,n % 5=j:=⟨_,rfl⟩;have hr:(n:Int).tmod 5=(j:Int):=by rw [Int.tmod_eq_emod_of_nonneg (by omega)];omega
 have hw:IntKind.i64.wrap (j:Int)=(j:Int):=IntWalk.i64_in _ (by omega);have k0:(0:Int)≤(j:Int):=by omega
 have kl:(j:Int)<5:=by omega
 have hc9:(w.alloc (.cells #[.string ⟨#[]⟩,.string ⟨#[35,32,90,111,110,101,32,88,32,48,58,48,48,32,45,32,89]⟩,.string ⟨#[32,9,32]⟩,.string ⟨#[32,32,35,32,34]⟩,.string ⟨#[35]⟩] 9)).cell? ⟨w.heap.size,j,none⟩=some (.string ⟨(padB j).toArray⟩):=(Blk.new' w 9 #[.string ⟨#[]⟩,.string ⟨#[35,32,90,111,110,101,32,88,32,48,58,48,48,32,45,32,89]⟩,.string ⟨#[32,9,32]⟩,.string ⟨#[32,32,35,32,34]⟩,.string ⟨#[35]⟩] rfl).cell_ (by rcases (by omega:j=0∨j=1∨j=2∨j=3∨j=4) with rfl|rfl|rfl|rfl|rfl<;>rfl);have HP:=hid (padB_is j);generalize padB j=pd at *;clear hj hn
 go_enter Tryz.func14,Tryz.ntmps14;go_wp2_with fail
 go_ret
 exact ⟨⟨_,rfl,pd,rfl,HP.out⟩,(Below.refl _ _).alloc (Nat.le_refl _) _⟩
theorem next_any {bo n d:Nat} {q:Option Addr} {w:World} (hb:Blk w bo 28 #[.slice q n d]) (hn:n≤1048576):Calls Tryz.prog 15 #[.pointer (some ⟨bo,0,none⟩)] w fun e w'=>e=.returned (.int .i64 ((n:Int)+1))∧Below w.heap.size w w':=by
 have b0:=hb.cell_ (i:=0) rfl;have hw:IntKind.i64.wrap ((n:Int)+1)=(n:Int)+1:=IntWalk.i64_in _ (by omega);clear hb hn
 go_enter Tryz.func15,Tryz.ntmps15;go_wp2_with fail
 go_ret
 exact ⟨rfl,Below.refl _ _⟩
structure AddR (bo:Nat) (o:Option Nat) (W W':World):Prop where
 os:W'.os=W.os
 tape:W'.tape=W.tape
 output:W'.output=W.output
 size:W.heap.size≤W'.heap.size
 block:∀j,j<W.heap.size→j≠bo→some j≠o→W'.heap[j]? = W.heap[j]?
section
variable {bo:Nat} {o:Option Nat} {v0 v:Value} {W0 W W':World}
theorem AddR.refl (bo:Nat) (o:Option Nat) (W:World):AddR bo o W W:=⟨rfl,rfl,rfl,Nat.le_refl _,fun _ _ _ _=>rfl⟩
theorem AddR.below (h:AddR bo o W0 W) (hb:Below W.heap.size W W'):AddR bo o W0 W':=⟨hb.os.trans h.os,hb.tape.trans h.tape,hb.output.trans h.output,Nat.le_trans h.size hb.size,fun j h1 h2 h3=>(hb.block j (Nat.lt_of_lt_of_le h1 h.size)).trans (h.block j h1 h2 h3)⟩
theorem AddR.grown (h:AddR bo v0.ownBlock W0 W) (hr:Renewed W0.heap.size v0 v) (hg:W.grownBy W' v.ownBlock):AddR bo v0.ownBlock W0 W' :=
 ⟨hg.os.trans h.os,hg.tape.trans h.tape,hg.output.trans h.output,Nat.le_trans h.size hg.size,fun j h1 h2 h3=>(hg.block j (Nat.lt_of_lt_of_le h1 h.size) (fun hh=>by
  rcases hr with e|⟨g,e,hl⟩
  ·exact h3 (hh.trans e)
  ·rw [e] at hh
   have:=Option.some.inj hh
   omega)).trans (h.block j h1 h2 h3)⟩
theorem AddR.store (h:AddR bo o W0 W) (u:Value):AddR bo o W0 (W.setCell ⟨bo,0,none⟩ u):=⟨h.os,h.tape,h.output,by simpa using h.size,fun j h1 h2 h3=>(Below.heap_setCell W _ _ j h2).trans (h.block j h1 h2 h3)⟩
theorem own_add {B e k n:Nat} {xs:List Value} (ha:AddR bo o W W') (ho:W.ownsRow B e k v n xs) (hb:v.ownBlock≠some bo) (hne:v.ownBlock=none∨v.ownBlock≠o):W'.ownsRow B e k v n xs:=by
 refine ⟨ho.1,?_⟩
 rcases ho.2 with h2|⟨g,cap,cur,e1,hg,hh,rest⟩
 ·exact .inl h2
 ·refine .inr ⟨g,cap,cur,e1,hg,(ha.block g (show Blk W g e cur from hh).lt (fun hx=>hb (by rw [e1,hx];simp [Value.ownBlock])) (fun hx=>?_)).trans hh,rest⟩
  rcases hne with h|h
  ·rw [e1] at h;simp [Value.ownBlock] at h
  ·exact h (by rw [←hx,e1];simp [Value.ownBlock])
end
structure AS (W0:World) (B bo bg g:Nat) (v0:Value) (M:List (List UInt8)) (v:Value) (W:World):Prop where
 box:Blk W bo 28 #[v]
 own:StrO B M v W
 gap:Blk W bg 3 #[.int .i64 (g:Int)]
 rel:AddR bo v0.ownBlock W0 W
 ren:Renewed W0.heap.size v0 v
 ne:bg≠bo
section
variable {W0 W W':World} {B bo bg g L:Nat} {v0 v u:Value} {M:List (List UInt8)} {x:List UInt8}
theorem AS.below (h:AS W0 B bo bg g v0 M v W) (hb:Below W.heap.size W W'):AS W0 B bo bg g v0 M v W':=⟨h.box.below hb h.box.lt,OwnR.kept_ h.own hb,h.gap.below hb h.gap.lt,h.rel.below hb,h.ren,h.ne⟩
theorem AS.gstr (h:AS W0 B bo bg g v0 M v W) (hg:GStr B M v W W'):AS W0 B bo bg g v0 M v W':=⟨blk_grown h.box hg.1 h.own (by decide),hg.2 h.own,blk_grown h.gap hg.1 h.own (by decide),h.rel.grown h.ren hg.1,h.ren,h.ne⟩
theorem ren_trans {L L':Nat} {a b c:Value} (h:Renewed L a b) (h':Renewed L' b c) (hl:L≤L'):Renewed L a c:=by
 rcases h' with e|⟨g,e,hg⟩
 ·rcases h with e2|⟨g,e2,hg⟩
  ·exact .inl (e.trans e2)
  ·exact .inr ⟨g,e.trans e2,hg⟩
 ·exact .inr ⟨g,e,by omega⟩
theorem AS.put (h:AS W0 B bo bg g v0 M v W) (hu:StrO B (M++[x]) u W) (hr:Renewed L v u) (hL:W0.heap.size≤L):AS W0 B bo bg g v0 (M++[x]) u (W.setCell ⟨bo,0,none⟩ u) :=
 ⟨h.box.set_ 0 u,own_farT hu h.box (by decide) _,h.gap.far (by show bg≠bo;exact h.ne) u,h.rel.store u,ren_trans h.ren hr hL,h.ne⟩
theorem AS.grow (h:AS W0 B bo bg g v0 M v W) (hg:W.grownBy W' v.ownBlock) (hu:StrO B (M++[x]) u W') (hr:Renewed L v u) (hL:W0.heap.size≤L):AS W0 B bo bg g v0 (M++[x]) u (W'.setCell ⟨bo,0,none⟩ u):=by
 have hb:=blk_grown h.box hg h.own (by decide);have hgp:=blk_grown h.gap hg h.own (by decide);exact ⟨hb.set_ 0 u,own_farT hu hb (by decide) _,hgp.far (by show bg≠bo;exact h.ne) u,(h.rel.grown h.ren hg).store u,ren_trans h.ren hr hL,h.ne⟩
end
theorem add_any {B bo bg g:Nat} {v:Value} {M:List (List UInt8)} (x:List UInt8) (w:World) (hb:Blk w bo 28 #[v]) (ho:StrO B M v w) (hg:Blk w bg 3 #[.int .i64 (g:Int)]) (hne:bg≠bo) (hg3:g≤3) (hM:M.length≤1000) (hB:B≤w.heap.size) :
 Calls Tryz.prog 13 #[.string ⟨x.toArray⟩,.int .i64 0,.pointer (some ⟨bo,0,none⟩),.pointer (some ⟨bg,0,none⟩)] w fun e w'=>∃(ps:List (List UInt8)) (u:Value),e=.returned (.bool true)∧ps.length=g∧(∀p ∈ ps,LineIs p [])∧AS w B bo bg g v (M++x::ps) u w':=by
 obtain ⟨istr,zstr,histr,hzstr,hszstr,hbystr,hzcstr⟩:=info_st (P:=Tryz.prog) (e:=9) (k:=1) (by kernel_rfl);have HA:=hid (show AS w B bo bg g v M v w from ⟨hb,ho,hg,AddR.refl _ _ _,.inl rfl,hne⟩);obtain ⟨q0,d0,rfl⟩:=own_form ho;have b0:=hb.cell_ (i:=0) rfl;have hms:M.length≤1000:=hM;clear hb ho hg hne
 go_enter Tryz.func13,Tryz.ntmps13;go_wp2_with (first|(at_builtin;refine wpList_append_any _ rfl (.tmp 7) (.tmp 9) 28 rfl B 9 istr zstr 1 istr.bytes Tryz.underlying28 histr hzstr hszstr rfl hzcstr (by decide) _ _ _ rfl (World.ownsRow.alloc HA.out.own _) (w.heap.size+1) (some ⟨w.heap.size,0,none⟩) 1 1 [.string ⟨x.toArray⟩] rfl ?c0 ?c1 ?c2 ?c3 ?c4 ?_)|fail)
 case c0=>exact ⟨rfl,fun _=>⟨_,rfl,by simp,fun j u hu=>by rw [Addr.add_lit,Nat.zero_add];exact (Blk.new' w 9 #[.string ⟨x.toArray⟩] rfl).cell_ (by simpa using hu)⟩⟩
 case c1=>intro u hu;simp only [List.mem_cons,List.not_mem_nil,or_false] at hu;subst hu;rfl
 case c2=>unfold maxLen;omega
 case c3 =>
  have:(M.length+1)*istr.bytes≤1001*1000:=Nat.mul_le_mul (by omega) hbystr
  omega
 case c4=>simp;omega
 intro v2 wb hown hgrow hv2;have ha:Below w.heap.size w (w.alloc (.cells #[.string ⟨x.toArray⟩] 9)):=(Below.refl _ _).alloc (Nat.le_refl _) _
 have HS:=hid ((HA.out.below ha).grow hgrow (x:=x) (u:=v2) (L:=w.heap.size) (by show World.ownsRow _ _ _ _ _ _ _;rw [List.length_append,flatC_snoc];exact hown) (by
  rcases hv2 with h|h
  ·exact .inl h
  ·exact .inr ⟨_,h,by simp⟩) (Nat.le_refl _))
 have hb9:=blk_grown ((HA.out.below ha).box) hgrow (HA.out.below ha).own (by decide);have b0:=hb9.cell_ (i:=0) rfl;have f0:=hb9.frozen 0;have g0:=HS.out.gap.cell_ (i:=0) rfl;obtain ⟨q1,d1,rfl⟩:=own_form hown;clear hown hgrow hv2 ha hb9 HA
 go_upto_region 3 with fail
 generalize wb.setCell ⟨bo,0,none⟩ (.slice q1 (M.length+1) d1)=w1 at *;clear b0 f0 g0
 go_loopw [12] (fun i wr=>∃(k:Nat) (ps N:List (List UInt8)) (v:Value),k≤g∧i=.int .i64 (k:Int)∧Hid (ps.length=k)∧Hid (N=M++x::ps)∧Hid (∀p ∈ ps,LineIs p [])∧Hid (AS w B bo bg g (.slice q0 M.length d0) N v wr)) (fun i _=>g-(intOf i).toNat)
 case atStart=>exact ⟨0,[],M++[x],_,Nat.zero_le _,rfl,hid rfl,hid rfl,hid (by simp),HS⟩
 case round =>
 clear HS;obtain ⟨k,ps,N,v,hk,rfl,HN,HE,HP,HS⟩:=hrel
 by_cases hlt:k<g
 ·have hd:decide ((k:Int)<(g:Int))=true:=by simp;omega
  obtain ⟨L,hL⟩:∃L,wr.heap.size=L:=⟨_,rfl⟩;have HLL:=hid (show Low L v from by rw [←hL];exact low_of HS.out.own);have HL0:=hid (show w.heap.size≤L from by rw [←hL];exact HS.out.rel.size);have HNl:=hid (show N.length≤2000 from by rw [HE.out];have:=HN.out;simp;omega);obtain ⟨q,d,rfl⟩:=own_form HS.out.own;have HBL:=hid (Nat.le_trans hB HL0.out)
  go_upto_region 4 with fail
  refine wp_region_relsG 6 [[],[],[],[],[3],[4]] [Form.val,Form.val,Form.val,Form.rel (PadV),Form.rel (PadOne L),Form.rel (PadRow B L (.slice q N.length d) N)] (fun W=>AS w B bo bg g (.slice q0 M.length d0) N (.slice q N.length d) W∧L≤W.heap.size) (GStr B N (.slice q N.length d)) 5 (by kernel_rfl) (by kernel_rfl) rfl rfl (⟨HS.out.below (Below.refl _ _).drew,by rw [←hL];exact Nat.le_refl _⟩) GOwn.of_below (fun W W2 h=>h.1.size) (fun W W2 k h=>⟨k.1.gstr h,Nat.le_trans k.2 h.1.size⟩) ⟨padV_lg,(PadOne.lg HLL.out),PadRow.last,trivial⟩ ?_
  repeat (first|apply exSpec_rel|apply exSpec_new|apply exSpec_val)
  apply relWalkR_ex rfl rfl ?oa0 (fun K hK=>?na0)
  case oa0 =>
   intro W hC hF;have b0:=hC.1.box.cell_ (i:=0) rfl;go_simp;exact ⟨Below.refl _ _,rfl⟩
  case' na0 =>
   go_simp;refine hK _ ?_;clear hK K
  apply relWalkR_ex rfl rfl ?oa1 (fun K hK=>?na1)
  case oa1 =>
   intro W hC hF;have b0:=hC.1.box.cell_ (i:=0) rfl;go_simp;exact ⟨Below.refl _ _,rfl⟩
  case' na1 =>
   go_simp;refine hK _ ?_;clear hK K
  apply relWalkR_ex rfl rfl ?oa2 (fun K hK=>?na2)
  case oa2 =>
   intro W hC hF;go_simp
   all_goals first|exact ⟨Below.refl _ _,rfl⟩|exact Below.refl _ _
  case' na2 =>
   go_simp;refine hK _ ?_;clear hK K
  apply relWalkR_rel rfl rfl ?oa3 (fun u3 K hK=>?na3)
  case oa3 =>
   intro W hC hF;go_simp;exact (pad_any N.length _ (by have:=HNl.out;omega)).mono fun e w2 ⟨⟨u,he,hu⟩,hb⟩=>⟨_,he,hb,hu⟩
  case' na3 =>
   go_simp;refine hK _ ?_;clear hK K
  apply relWalkR_rel rfl rfl ?oa4 (fun u4 K hK=>?na4)
  case oa4 =>
   intro W hC hF;obtain ⟨⟨s,rfl,hs⟩,-⟩:=hF;have hL9:=hC.2;go_simp;exact ⟨(Below.refl _ _).alloc (Nat.le_refl _) _,s,⟨_,rfl,Blk.new' _ _ _ rfl,hL9⟩,hs⟩
  case' na4 =>
   go_simp;refine hK _ ?_;clear hK K
  apply relWalkR_wr rfl rfl ?oa5 (fun u5 K hK=>?na5)
  case oa5 =>
   intro W hC hF;obtain ⟨⟨s,⟨g1,rfl,hb1,hg1⟩,hs⟩,-⟩:=hF;have hBW:=HBL.out;refine relAtR_push2 rfl B L istr zstr 1 Tryz.underlying28 histr hzstr hszstr hbystr hzcstr (by decide) (.slice q N.length d) N.length (flatC encS N) rfl hC.1.own g1 1 (encS s) rfl hb1 rfl (by simp [encS,Value.oneCell']) (by have:=HNl.out;omega) (Nat.le_trans hBW hC.2) hC.2 (fun u w' hG=>⟨s,?_,hs⟩);rw [flatC_snoc];exact hG
  case' na5 =>
   go_simp;refine hK _ ?_;clear hK K
  apply relWalkR_end
  intro W hC hF hU;obtain ⟨⟨s,h9,hs⟩,-⟩:=hF;have b0:=hC.1.box.cell_ (i:=0) rfl;have f0:=hC.1.box.frozen 0;have HS9:=hid (hC.1.put (x:=s) (u:=_) (by show World.ownsRow _ _ _ _ _ _ _;rw [show (N++[s]).length=N.length+1 from by simp];exact h9.1) h9.2 HL0.out)
  have HP9:=hid (show ∀p ∈ ps++[s],LineIs p [] from fun p hp=>by
   rcases List.mem_append.1 hp with h|h
   ·exact HP.out p h
   ·rw [List.mem_singleton.1 h];exact hs)
  have HE9:=hid (show N++[s]=M++x::(ps++[s]) from by rw [HE.out];simp);obtain ⟨q9,d9,rfl⟩:=own_form h9.1;clear hU hC h9 hs HS HP HE HLL HL0 HBL HNl hL;go_wp2_with fail
  go_roundw
  case rel=>exact ⟨k+1,ps++[s],N++[s],_,by omega,by go_num,hid (by simp [HN.out]),HE9,HP9,HS9⟩
  case measure=>simp [intOf];omega
 ·have hd:decide ((k:Int)<(g:Int))=false:=by simp;omega
  obtain rfl:k=g:=by omega
  clear hlt hk;go_wp2_with fail
  go_ret
  exact ⟨ps,v,rfl,HN.out,HP.out,by rw [←HE.out];exact HS.out⟩
end Go.Proofs.YtboagmbmmoomiaaGreatDoor
