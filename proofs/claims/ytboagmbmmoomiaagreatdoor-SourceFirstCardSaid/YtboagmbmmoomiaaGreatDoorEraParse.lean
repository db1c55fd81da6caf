/-
  eraline.rules: what it writes, or with what it panics.
  eraline.read: what it returns, or with what it panics.
  eraline.line as a whole; eraline.Print: what the calls return.
  eraline.Parse and eraline.Print: what the calls return.
  strings.Split at a space; what eraline.Parse reads of a string's fields.
-/
import Derived.Test.YtboagmbmmoomiaaGreatDoorEraHead
import Derived.Test.YtboagmbmmoomiaaGreatDoorEraLine3
import Derived.Test.YtboagmbmmoomiaaGreatDoorOffAll
import Derived.Lib.SplitLaws
set_option linter.unusedVariables false
set_option linter.unusedSimpArgs false
set_option maxRecDepth 100000
set_option maxHeartbeats 4000000
namespace Go.Proofs.YtboagmbmmoomiaaGreatDoor
open Go.Lib (hid)
open Go.RowKit
theorem erules_dash (off:Int) (g:Nat) (w:World) (hB:Blk w g 62 #[.int .i64 off,.int .i64 0,.int .i64 0,.string ⟨#[]⟩,.string ⟨#[]⟩,.bool false,.int .i64 0,.int .i64 0,.int .i64 0,.int .i64 0,.int .i64 0,.int .i64 0,.int .i64 0]) :
 Calls Tryz.prog 157 #[.string ⟨#[45]⟩,.pointer (some ⟨g,0,none⟩)] w fun e w'=>e=.returned (.tuple #[])∧w=w':=by
 clear hB
 go_enter Tryz.func157,Tryz.ntmps157;go_wp2_with fail
 go_end0
 exact ⟨rfl,rfl⟩
theorem erules_set (s:ByteArray) (off:Int) (g:Nat) (w:World) (hs:s.size≤1048576) (hB:Blk w g 62 #[.int .i64 off,.int .i64 0,.int .i64 0,.string ⟨#[]⟩,.string ⟨#[]⟩,.bool false,.int .i64 0,.int .i64 0,.int .i64 0,.int .i64 0,.int .i64 0,.int .i64 0,.int .i64 0]) (h1:s.data.toList≠[45]) (h2:headB s.data.toList=true) (h3:setB s.data.toList=true) :
 Calls Tryz.prog 157 #[.string s,.pointer (some ⟨g,0,none⟩)] w fun e w'=>e=.returned (.tuple #[])∧Blk w' g 62 #[.int .i64 off,.int .i64 2,.int .i64 0,.string s,.string ⟨#[]⟩,.bool false,.int .i64 0,.int .i64 0,.int .i64 0,.int .i64 0,.int .i64 0,.int .i64 0,.int .i64 0]∧But g w w':=by
 have HL:=hid (show ∀W,Calls Tryz.prog 186 #[.string s] W fun e w'=>e=.returned (.bool true)∧Below W.heap.size W w' from fun W=>by have:=eletter_any s W hs;rwa [h2] at this);have HS:=hid (show ∀W,Calls Tryz.prog 32 #[.string s] W fun e w'=>e=.returned (.bool true)∧Below W.heap.size W w' from fun W=>by have:=set_any s W hs;rwa [h3] at this);have hne:=str_ne h1;have HB:=hid hB;clear h1 h2 h3 hB
 go_enter Tryz.func157,Tryz.ntmps157;go_wp2_with fail
 refine (HL.out _).mono ?_;rintro e w1 ⟨rfl,hb1⟩;have HB1:=hid (And.intro (HB.out.below hb1 HB.out.lt) hb1);clear hb1;go_wp2_with fail
 refine (HS.out _).mono ?_;rintro e w2 ⟨rfl,hb2⟩;have HB2:=hid (And.intro (HB1.out.1.below hb2 HB1.out.1.lt) (HB1.out.2.trans (hb2.mono HB1.out.2.size)));clear hb2 HB1 HB HL HS;go_wp2_with fail
 refine (must_yes _ _).mono ?_;rintro e w3 ⟨rfl,rfl⟩;have q1:=HB2.out.1.cell_ (i:=1) rfl;have q3:=HB2.out.1.cell_ (i:=3) rfl;have f1:=HB2.out.1.frozen 1;have f3:=HB2.out.1.frozen 3;have hlt:=HB2.out.1.lt;go_wp2_with fail
 go_end0
 exact ⟨rfl,(HB2.out.1.set_ 1 _).set_ 3 _,((But.of HB2.out.2).set 1 _).set 3 _⟩
theorem erules_name (s:ByteArray) (g:Nat) (w:World) (hs:s.size≤1048576) (h1:s.data.toList≠[45]) (h2:headB s.data.toList=true) (h3:setB s.data.toList=false) :
 Calls Tryz.prog 157 #[.string s,.pointer (some ⟨g,0,none⟩)] w fun e w'=>e=Fails 9∧Below w.heap.size w w':=by
 have HL:=hid (show ∀W,Calls Tryz.prog 186 #[.string s] W fun e w'=>e=.returned (.bool true)∧Below W.heap.size W w' from fun W=>by have:=eletter_any s W hs;rwa [h2] at this);have HS:=hid (show ∀W,Calls Tryz.prog 32 #[.string s] W fun e w'=>e=.returned (.bool false)∧Below W.heap.size W w' from fun W=>by have:=set_any s W hs;rwa [h3] at this);have hne:=str_ne h1;clear h1 h2 h3
 go_enter Tryz.func157,Tryz.ntmps157;go_wp2_with fail
 refine (HL.out _).mono ?_;rintro e w1 ⟨rfl,hb1⟩;have HB1:=hid hb1;clear hb1;go_wp2_with fail
 refine (HS.out _).mono ?_;rintro e w2 ⟨rfl,hb2⟩;have HB2:=hid (HB1.out.trans (hb2.mono HB1.out.size));clear hb2 HB1 HL HS;go_wp2_with fail
 refine (must_no _ _).mono ?_;rintro e w3 ⟨rfl,rfl⟩;exact ⟨rfl,rfl,HB2.out⟩
theorem erules_off (s:ByteArray) (off x:Int) (g:Nat) (w:World) (hs:s.size≤1048576) (hT:ETabs w) (hB:Blk w g 62 #[.int .i64 off,.int .i64 0,.int .i64 0,.string ⟨#[]⟩,.string ⟨#[]⟩,.bool false,.int .i64 0,.int .i64 0,.int .i64 0,.int .i64 0,.int .i64 0,.int .i64 0,.int .i64 0]) (h1:s.data.toList≠[45]) (h2:headB s.data.toList=false) (h3:offParseR s.data.toList=(x,0)) :
 Calls Tryz.prog 157 #[.string s,.pointer (some ⟨g,0,none⟩)] w fun e w'=>e=.returned (.tuple #[])∧Blk w' g 62 #[.int .i64 off,.int .i64 1,.int .i64 x,.string ⟨#[]⟩,.string ⟨#[]⟩,.bool false,.int .i64 0,.int .i64 0,.int .i64 0,.int .i64 0,.int .i64 0,.int .i64 0,.int .i64 0]∧But g w w':=by
 have HL:=hid (show ∀W,Calls Tryz.prog 186 #[.string s] W fun e w'=>e=.returned (.bool false)∧Below W.heap.size W w' from fun W=>by have:=eletter_any s W hs;rwa [h2] at this);have HS:=hid (show ∀W,Below w.heap.size w W→Calls Tryz.prog 156 #[.string s] W fun e w'=>e=.returned (.tuple #[.int .i64 x,.int .i64 0])∧Below W.heap.size W w' from fun W hW=>by have:=offParse_any s W hs (hT.below hW).units (hT.below hW).esyn;rwa [h3] at this);have hne:=str_ne h1;have HB:=hid hB;clear h1 h2 h3 hB hT
 go_enter Tryz.func157,Tryz.ntmps157;go_wp2_with fail
 refine (HL.out _).mono ?_;rintro e w1 ⟨rfl,hb1⟩;have HB1:=hid (And.intro (HB.out.below hb1 HB.out.lt) hb1);clear hb1;go_wp2_with fail
 refine (HS.out _ HB1.out.2).mono ?_;rintro e w2 ⟨rfl,hb2⟩;have HB2:=hid (And.intro (HB1.out.1.below hb2 HB1.out.1.lt) (HB1.out.2.trans (hb2.mono HB1.out.2.size)));clear hb2 HB1 HB HL HS;go_wp2_with fail
 refine (need64_ok _ _).mono ?_;rintro e w3 ⟨rfl,rfl⟩;have q1:=HB2.out.1.cell_ (i:=1) rfl;have q2:=HB2.out.1.cell_ (i:=2) rfl;have f1:=HB2.out.1.frozen 1;have f2:=HB2.out.1.frozen 2;have hlt:=HB2.out.1.lt;go_wp2_with fail
 go_end0
 exact ⟨rfl,(HB2.out.1.set_ 1 _).set_ 2 _,((But.of HB2.out.2).set 1 _).set 2 _⟩
theorem erules_bad (s:ByteArray) (x y:Int) (g:Nat) (w:World) (hs:s.size≤1048576) (hT:ETabs w) (h1:s.data.toList≠[45]) (h2:headB s.data.toList=false) (h3:offParseR s.data.toList=(x,y)) (hy:y≠0) :
 Calls Tryz.prog 157 #[.string s,.pointer (some ⟨g,0,none⟩)] w fun e w'=>e=Fails y∧Below w.heap.size w w':=by
 have HL:=hid (show ∀W,Calls Tryz.prog 186 #[.string s] W fun e w'=>e=.returned (.bool false)∧Below W.heap.size W w' from fun W=>by have:=eletter_any s W hs;rwa [h2] at this);have HS:=hid (show ∀W,Below w.heap.size w W→Calls Tryz.prog 156 #[.string s] W fun e w'=>e=.returned (.tuple #[.int .i64 x,.int .i64 y])∧Below W.heap.size W w' from fun W hW=>by have:=offParse_any s W hs (hT.below hW).units (hT.below hW).esyn;rwa [h3] at this);have hne:=str_ne h1;have HY:=hid hy;clear h1 h2 h3 hT hy
 go_enter Tryz.func157,Tryz.ntmps157;go_wp2_with fail
 refine (HL.out _).mono ?_;rintro e w1 ⟨rfl,hb1⟩;have HB1:=hid hb1;clear hb1;go_wp2_with fail
 refine (HS.out _ HB1.out).mono ?_;rintro e w2 ⟨rfl,hb2⟩;have HB2:=hid (HB1.out.trans (hb2.mono HB1.out.size));clear hb2 HB1 HL HS;go_wp2_with fail
 refine (need64_no _ _ HY.out _).mono ?_;rintro e w3 ⟨rfl,rfl⟩;exact ⟨rfl,rfl,HB2.out⟩
theorem erules_ok (s:ByteArray) (off:Int) (g:Nat) (w:World) (hs:s.size≤1048576) (hT:ETabs w) (hB:Blk w g 62 #[.int .i64 off,.int .i64 0,.int .i64 0,.string ⟨#[]⟩,.string ⟨#[]⟩,.bool false,.int .i64 0,.int .i64 0,.int .i64 0,.int .i64 0,.int .i64 0,.int .i64 0,.int .i64 0]) (h:(rulesR s.data.toList).2=0) :
 Calls Tryz.prog 157 #[.string s,.pointer (some ⟨g,0,none⟩)] w fun e w'=>e=.returned (.tuple #[])∧Blk w' g 62 #[.int .i64 off,.int .i64 (rulesR s.data.toList).1.1,.int .i64 (rulesR s.data.toList).1.2.1,.string ⟨(rulesR s.data.toList).1.2.2.toArray⟩,.string ⟨#[]⟩,.bool false,.int .i64 0,.int .i64 0,.int .i64 0,.int .i64 0,.int .i64 0,.int .i64 0,.int .i64 0]∧But g w w':=by
 by_cases h1:s.data.toList=[45]
 ·obtain rfl:s=⟨#[45]⟩:=str_of h1
  exact (erules_dash off g w hB).mono fun e w' ⟨a,b⟩=>by subst b;exact ⟨a,hB,But.of (Below.refl _ _)⟩
 ·cases h2:headB s.data.toList with
  | true =>
   cases h3:setB s.data.toList with
   | true =>
    have he:rulesR s.data.toList=((2,0,s.data.toList),0):=by rw [rulesR,if_neg h1,if_pos h2,if_pos h3]
    rw [he];have:=erules_set s off g w hs hB h1 h2 h3;rwa [show (⟨(((2:Int),(0:Int),s.data.toList),(0:Int)).1.2.2.toArray⟩:ByteArray)=s from ba_list s]
   | false=>rw [rulesR,if_neg h1,if_pos h2,h3,if_neg (by decide)] at h;exact absurd h (by decide)
  | false =>
   have he:rulesR s.data.toList=if (offParseR s.data.toList).2=0 then ((1,(offParseR s.data.toList).1,[]),0) else ((0,0,[]),(offParseR s.data.toList).2):=by rw [rulesR,if_neg h1,h2,if_neg (by decide)]
   by_cases h3:(offParseR s.data.toList).2=0
   ·rw [if_pos h3] at he
    rw [he];exact erules_off s off _ g w hs hT hB h1 h2 (Prod.ext rfl h3)
   ·rw [he,if_neg h3] at h;exact absurd h h3
theorem erules_no (s:ByteArray) (g:Nat) (w:World) (hs:s.size≤1048576) (hT:ETabs w) (h:(rulesR s.data.toList).2≠0) :
 Calls Tryz.prog 157 #[.string s,.pointer (some ⟨g,0,none⟩)] w fun e w'=>e=Fails (rulesR s.data.toList).2∧Below w.heap.size w w':=by
 by_cases h1:s.data.toList=[45]
 ·rw [rulesR,if_pos h1] at h;exact absurd rfl h
 ·cases h2:headB s.data.toList with
  | true =>
   cases h3:setB s.data.toList with
   | true=>rw [rulesR,if_neg h1,if_pos h2,if_pos h3] at h;exact absurd rfl h
   | false =>
    rw [show (rulesR s.data.toList).2=9 by rw [rulesR,if_neg h1,if_pos h2,h3,if_neg (by decide)]];exact erules_name s g w hs h1 h2 h3
  | false =>
   have he:rulesR s.data.toList=if (offParseR s.data.toList).2=0 then ((1,(offParseR s.data.toList).1,[]),0) else ((0,0,[]),(offParseR s.data.toList).2):=by rw [rulesR,if_neg h1,h2,if_neg (by decide)]
   by_cases h3:(offParseR s.data.toList).2=0
   ·rw [he,if_pos h3] at h;exact absurd rfl h
   ·rw [he,if_neg h3]
    exact erules_bad s _ _ g w hs hT h1 h2 rfl h3
theorem infoEra:(Tryz.prog.info? 62).map (·.size)=some 13:=by kernel_rfl
theorem Blk.farSets {g b:Nat} {t:TypeId} {cs:Array Value} {w:World} (h:Blk w b t cs) (hne:b≠g):∀(vs:List Value) (o:Nat),Blk (w.setCells g o vs) b t cs:=by
 intro vs
 induction vs generalizing w with
 | nil=>intro o;exact h
 | cons v vs ih=>intro o;exact ih (h.far hne v) (o+1)
theorem Blk.setMid {w:World} {g:Nat} {t:TypeId} (A B C D:List Value) (h:Blk w g t (A++(B++D)).toArray) (hs:C.length=B.length):Blk (w.setCells g A.length C) g t (A++(C++D)).toArray:=by
 obtain ⟨c,h1,h2⟩:=Blk.sets C A.length w _ h (by simp [hs])
 have e:c=(A++(C++D)).toArray:=by
  apply Array.ext_getElem?
  intro j;rw [h2 j];simp only [List.getElem?_toArray]
  by_cases h3:j<A.length
  ·rw [if_neg (by omega),List.getElem?_append_left h3,List.getElem?_append_left h3]
  ·by_cases h4:j-A.length<C.length
   ·rw [if_pos ⟨by omega,by omega⟩,List.getElem?_append_right (by omega),List.getElem?_append_left h4]
   ·rw [if_neg (by omega),List.getElem?_append_right (by omega),List.getElem?_append_right (by omega),List.getElem?_append_right (by omega),List.getElem?_append_right (by omega),hs]
 rw [e] at h1;exact h1
theorem read_fin {C:Array Value} {R:EraP × Int} (h0:R.2=0) (h:C=R.1.cells):Ending.returned (.agg C)=orFail (.agg R.1.cells) R.2:=by rw [h0,orFail_ok,h]
theorem eread3 (b o c:Nat) (s0 s1 s2:ByteArray) (w:World) (hT:ETabs w) (hb:b<w.heap.size) (hs0:s0.size≤1048576) (hs1:s1.size≤1048576) (hs2:s2.size≤1048576)
 (c0:w.cell? ⟨b,o+0,none⟩=some (.string s0)) (c1:w.cell? ⟨b,o+1,none⟩=some (.string s1)) (c2:w.cell? ⟨b,o+2,none⟩=some (.string s2)) :
 Calls Tryz.prog 140 #[.slice (some ⟨b,o,none⟩) 3 c] w fun e w'=>e=orFail (.agg (eraR [s0.data.toList,s1.data.toList,s2.data.toList]).1.cells) (eraR [s0.data.toList,s1.data.toList,s2.data.toList]).2∧Below w.heap.size w w':=by
 obtain ⟨R,hR⟩:∃R,eraR [s0.data.toList,s1.data.toList,s2.data.toList]=R:=⟨_,rfl⟩;rw [hR];have HRow:=hid (show ∀W,Below w.heap.size w W→W.cell? ⟨b,o,none⟩=some (.string s0)∧W.cell? ⟨b,o+1,none⟩=some (.string s1)∧W.cell? ⟨b,o+2,none⟩=some (.string s2) from fun W hW=>⟨(hW.cell (p:=⟨b,o+0,none⟩) hb).trans c0,(hW.cell (p:=⟨b,o+1,none⟩) hb).trans c1,(hW.cell (p:=⟨b,o+2,none⟩) hb).trans c2⟩);unfold eraR at hR;rw [if_neg (by simp)] at hR;simp only [List.getD_cons_zero,List.getD_cons_succ] at hR;have HP:=hid (fun W (hW:Below w.heap.size w W)=>offParse_any s0 W hs0 (hT.below hW).units (hT.below hW).esyn);have HRu:=hid (fun W off g (hW:Below w.heap.size w W) hB hr=>erules_ok s1 off g W hs1 (hT.below hW) hB hr);have HRn:=hid (fun W g (hW:Below w.heap.size w W) hr=>erules_no s1 g W hs1 (hT.below hW) hr);have HF:=hid (fun W=>written_any s2 W hs2);clear c0 c1 c2 hT;have HB0:=hid (And.intro (Blk.new' w 62 #[.int .i64 0,.int .i64 0,.int .i64 0,.string ⟨#[]⟩,.string ⟨#[]⟩,.bool false,.int .i64 0,.int .i64 0,.int .i64 0,.int .i64 0,.int .i64 0,.int .i64 0,.int .i64 0] rfl) ((Below.refl w.heap.size w).alloc (Nat.le_refl _) (.cells #[.int .i64 0,.int .i64 0,.int .i64 0,.string ⟨#[]⟩,.string ⟨#[]⟩,.bool false,.int .i64 0,.int .i64 0,.int .i64 0,.int .i64 0,.int .i64 0,.int .i64 0,.int .i64 0] 62)))
 go_enter Tryz.func140,Tryz.ntmps140;go_wp2_with fail
 refine (must_yes _ _).mono ?_;rintro e w1 ⟨rfl,rfl⟩;generalize offParseR s0.data.toList=p0 at *;obtain ⟨x,e0⟩:=p0;obtain ⟨k0,-,-⟩:=HRow.out _ HB0.out.2;go_wp2_with fail
 refine (HP.out _ HB0.out.2).mono ?_;rintro e w1 ⟨rfl,hb1⟩;have HB1:=hid (And.intro (HB0.out.1.below hb1 HB0.out.1.lt) (HB0.out.2.trans (hb1.mono HB0.out.2.size)));clear hb1 HB0 HP k0
 by_cases hx:e0≠0
 ·rw [if_pos hx] at hR
  have HX:=hid hx;have HR:=hid hR;clear hR hx;go_wp2_with fail
  refine (need64_no _ _ HX.out _).mono ?_;rintro e w9 ⟨rfl,rfl⟩;exact ⟨rfl,by rw [←HR.out];exact (orFail_no _ HX.out).symm,HB1.out.2⟩
 rw [if_neg hx] at hR;obtain rfl:e0=0:=by simpa using hx
 clear hx;go_wp2_with fail
 refine (need64_ok _ _).mono ?_;rintro e w2 ⟨rfl,rfl⟩;have HB2:=hid (show Blk (w1.alloc (.cells #[.int .i64 x,.int .i64 0,.int .i64 0,.string ⟨#[]⟩,.string ⟨#[]⟩,.bool false,.int .i64 0,.int .i64 0,.int .i64 0,.int .i64 0,.int .i64 0,.int .i64 0,.int .i64 0] 62)) w.heap.size 62 #[.int .i64 0,.int .i64 0,.int .i64 0,.string ⟨#[]⟩,.string ⟨#[]⟩,.bool false,.int .i64 0,.int .i64 0,.int .i64 0,.int .i64 0,.int .i64 0,.int .i64 0,.int .i64 0]∧Blk (w1.alloc (.cells #[.int .i64 x,.int .i64 0,.int .i64 0,.string ⟨#[]⟩,.string ⟨#[]⟩,.bool false,.int .i64 0,.int .i64 0,.int .i64 0,.int .i64 0,.int .i64 0,.int .i64 0,.int .i64 0] 62)) w1.heap.size 62 #[.int .i64 x,.int .i64 0,.int .i64 0,.string ⟨#[]⟩,.string ⟨#[]⟩,.bool false,.int .i64 0,.int .i64 0,.int .i64 0,.int .i64 0,.int .i64 0,.int .i64 0,.int .i64 0]∧Below w.heap.size w (w1.alloc (.cells #[.int .i64 x,.int .i64 0,.int .i64 0,.string ⟨#[]⟩,.string ⟨#[]⟩,.bool false,.int .i64 0,.int .i64 0,.int .i64 0,.int .i64 0,.int .i64 0,.int .i64 0,.int .i64 0] 62))∧w.heap.size<w1.heap.size from ⟨HB1.out.1.alloc _,Blk.new' _ _ _ rfl,rbelow_alloc HB1.out.2 _,HB1.out.1.lt⟩);clear HB1;obtain ⟨-,k1,-⟩:=HRow.out _ HB2.out.2.2.1;go_wp2_with fail
 generalize w1.heap.size=g at *
 by_cases hx:(rulesR s1.data.toList).2≠0
 ·rw [if_pos hx] at hR
  refine (HRn.out _ _ HB2.out.2.2.1 hx).mono ?_;rintro e w3 ⟨rfl,hb3⟩;exact ⟨rfl,by rw [←hR];exact (orFail_no _ hx).symm,HB2.out.2.2.1.trans (hb3.mono HB2.out.2.2.1.size)⟩
 rw [if_neg hx] at hR;refine (HRu.out _ _ _ HB2.out.2.2.1 HB2.out.2.1 (by simpa using hx)).mono ?_;rintro e w3 ⟨rfl,hB3,hb3⟩;clear hx;generalize rulesR s1.data.toList=RR at *;obtain ⟨⟨kd,sv,sl⟩,r1⟩:=RR;obtain ⟨sn,rfl⟩:∃sn:ByteArray,sl=sn.data.toList:=⟨⟨sl.toArray⟩,by simp⟩;rw [ba_list] at hB3;have HB3:=hid (And.intro (show Blk w3 w.heap.size 62 #[.int .i64 0,.int .i64 0,.int .i64 0,.string ⟨#[]⟩,.string ⟨#[]⟩,.bool false,.int .i64 0,.int .i64 0,.int .i64 0,.int .i64 0,.int .i64 0,.int .i64 0,.int .i64 0] from HB2.out.1.but hb3 (by have:=HB2.out.2.2.2;omega)) (And.intro (hB3) (And.intro (show Below w.heap.size w w3 from hb3.below HB2.out.2.2.1 (by have:=HB2.out.2.2.2;omega) (Nat.le_refl _)) (HB2.out.2.2.2))));clear hB3 hb3 HB2 HRu HRn k1;obtain ⟨-,-,k2⟩:=HRow.out _ HB3.out.2.2.1;go_wp2_with fail
 refine (HF.out _).mono ?_;rintro e w4 ⟨rfl,hb4⟩;have HB4:=hid (And.intro (HB3.out.1.below hb4 HB3.out.1.lt) (And.intro (HB3.out.2.1.below hb4 HB3.out.2.1.lt) (And.intro (HB3.out.2.2.1.trans (hb4.mono HB3.out.2.2.1.size)) (HB3.out.2.2.2))));clear hb4 HB3 HF k2
 cases hf:fmtB s2.data.toList
 ·rw [if_pos hf] at hR
  have HR:=hid hR;clear hR hf;go_wp2_with fail
  refine (must_no _ _).mono ?_;rintro e w5 ⟨rfl,rfl⟩;exact ⟨rfl,by rw [←HR.out];rfl,HB4.out.2.2.1⟩
 rw [if_neg (by rw [hf];decide)] at hR;clear hf;go_wp2_with fail
 refine (must_yes _ _).mono ?_;rintro e w5 ⟨rfl,rfl⟩;obtain ⟨-,-,k2⟩:=HRow.out _ HB4.out.2.2.1;have q4:=HB4.out.2.1.cell_ (i:=4) rfl;have f4:=HB4.out.2.1.frozen 4;have hlt:=HB4.out.2.1.lt;rw [if_pos (by rfl)] at hR;obtain ⟨w5,hw5⟩:∃W,(w4.setCell ⟨g,4,none⟩ (.string s2))=W:=⟨_,rfl⟩;have HB5:=hid (show Blk w5 w.heap.size 62 #[.int .i64 0,.int .i64 0,.int .i64 0,.string ⟨#[]⟩,.string ⟨#[]⟩,.bool false,.int .i64 0,.int .i64 0,.int .i64 0,.int .i64 0,.int .i64 0,.int .i64 0,.int .i64 0]∧Blk w5 g 62 #[.int .i64 x,.int .i64 kd,.int .i64 sv,.string sn,.string s2,.bool false,.int .i64 0,.int .i64 0,.int .i64 0,.int .i64 0,.int .i64 0,.int .i64 0,.int .i64 0]∧Below w.heap.size w w5∧w.heap.size<g from hw5 ▸ ⟨(HB4.out.1.far (show w.heap.size≠g by have:=HB4.out.2.2.2;omega) _),(HB4.out.2.1.set_ 4 _),(HB4.out.2.2.1.setCell (show w.heap.size≤g by have:=HB4.out.2.2.2;omega) _),HB4.out.2.2.2⟩)
 go_upto_region 8 with fail
 try simp only [hw5]
 clear hw5 HB4 q4 f4 hlt k2;have HR:=hid hR;clear hR;obtain ⟨C,hCC⟩:∃C:Array Value,#[.int .i64 x,.int .i64 kd,.int .i64 sv,.string sn,.string s2,.bool false,.int .i64 0,.int .i64 0,.int .i64 0,.int .i64 0,.int .i64 0,.int .i64 0,.int .i64 0]=C:=⟨_,rfl⟩;have Hi:=hid (show (Tryz.prog.info? 62).map (·.size)=some C.size∧C.all (·.oneCell')=true∧C.size=13 from hCC ▸ ⟨infoEra,by simp [Value.oneCell'],rfl⟩);rw [hCC] at HB5;have HCC:=hid hCC;clear hCC
 go_wp2_with (first
  | (refine wpList_load_row rfl 62 (.tmp 4) rfl g rfl 62 C (0,0) _ HB5.out.2.1 Tryz.underlying62 rfl Hi.out.1 ?_)
  | (refine wpList_store_mid rfl 62 (.tmp 2) (.tmp 37) rfl (w.heap.size) 0 C rfl rfl (HB5.out.1.there (by rw [Hi.out.2.2];decide)) Hi.out.1 Hi.out.2.1 ?_))
 refine bodyPost_ret (results_cell_row rfl _ _ (w.heap.size) 62 C (0,0) _ rfl (HB5.out.1.setAll C Hi.out.2.2) Tryz.underlying62 rfl Hi.out.1) rfl ⟨by rw [←HCC.out,←HR.out];exact read_fin (by rfl) (by simp [EraP.cells,UntilP.none]),below_sets (Nat.le_refl _) _ _ _ HB5.out.2.2.1⟩
theorem eread4 (b o c:Nat) (s0 s1 s2 s3:ByteArray) (w:World) (hT:ETabs w) (hb:b<w.heap.size) (hs0:s0.size≤1048576) (hs1:s1.size≤1048576) (hs2:s2.size≤1048576) (hs3:s3.size≤1048576)
 (c0:w.cell? ⟨b,o+0,none⟩=some (.string s0)) (c1:w.cell? ⟨b,o+1,none⟩=some (.string s1)) (c2:w.cell? ⟨b,o+2,none⟩=some (.string s2)) (c3:w.cell? ⟨b,o+3,none⟩=some (.string s3)) :
 Calls Tryz.prog 140 #[.slice (some ⟨b,o,none⟩) 4 c] w fun e w'=>e=orFail (.agg (eraR [s0.data.toList,s1.data.toList,s2.data.toList,s3.data.toList]).1.cells) (eraR [s0.data.toList,s1.data.toList,s2.data.toList,s3.data.toList]).2∧Below w.heap.size w w':=by
 obtain ⟨R,hR⟩:∃R,eraR [s0.data.toList,s1.data.toList,s2.data.toList,s3.data.toList]=R:=⟨_,rfl⟩;rw [hR];have HRow:=hid (show ∀W,Below w.heap.size w W→W.cell? ⟨b,o,none⟩=some (.string s0)∧W.cell? ⟨b,o+1,none⟩=some (.string s1)∧W.cell? ⟨b,o+2,none⟩=some (.string s2)∧W.cell? ⟨b,o+3,none⟩=some (.string s3) from fun W hW=>⟨(hW.cell (p:=⟨b,o+0,none⟩) hb).trans c0,(hW.cell (p:=⟨b,o+1,none⟩) hb).trans c1,(hW.cell (p:=⟨b,o+2,none⟩) hb).trans c2,(hW.cell (p:=⟨b,o+3,none⟩) hb).trans c3⟩);unfold eraR at hR;rw [if_neg (by simp)] at hR;simp only [List.getD_cons_zero,List.getD_cons_succ] at hR;have HP:=hid (fun W (hW:Below w.heap.size w W)=>offParse_any s0 W hs0 (hT.below hW).units (hT.below hW).esyn);have HRu:=hid (fun W off g (hW:Below w.heap.size w W) hB hr=>erules_ok s1 off g W hs1 (hT.below hW) hB hr);have HRn:=hid (fun W g (hW:Below w.heap.size w W) hr=>erules_no s1 g W hs1 (hT.below hW) hr);have HF:=hid (fun W=>written_any s2 W hs2);have HY:=hid (fun W (hW:Below w.heap.size w W)=>eyear_any s3 W hs3 (hT.below hW).pows (hT.below hW).esyn (hT.below hW).eran);have hE:List.drop 3 [s0.data.toList,s1.data.toList,s2.data.toList,s3.data.toList]=[s3.data.toList]:=rfl;obtain ⟨EE,hEE⟩:∃EE,endR_ [s3.data.toList]=EE:=⟨_,rfl⟩;rw [hE,hEE] at hR;clear hE;unfold endR_ at hEE;simp only [List.getD_cons_zero,List.getD_cons_succ,List.length_cons,List.length_nil] at hEE;clear c0 c1 c2 c3 hT;have HB0:=hid (And.intro (Blk.new' w 62 #[.int .i64 0,.int .i64 0,.int .i64 0,.string ⟨#[]⟩,.string ⟨#[]⟩,.bool false,.int .i64 0,.int .i64 0,.int .i64 0,.int .i64 0,.int .i64 0,.int .i64 0,.int .i64 0] rfl) ((Below.refl w.heap.size w).alloc (Nat.le_refl _) (.cells #[.int .i64 0,.int .i64 0,.int .i64 0,.string ⟨#[]⟩,.string ⟨#[]⟩,.bool false,.int .i64 0,.int .i64 0,.int .i64 0,.int .i64 0,.int .i64 0,.int .i64 0,.int .i64 0] 62)))
 go_enter Tryz.func140,Tryz.ntmps140;go_wp2_with fail
 refine (must_yes _ _).mono ?_;rintro e w1 ⟨rfl,rfl⟩;generalize offParseR s0.data.toList=p0 at *;obtain ⟨x,e0⟩:=p0;obtain ⟨k0,-,-,-⟩:=HRow.out _ HB0.out.2;go_wp2_with fail
 refine (HP.out _ HB0.out.2).mono ?_;rintro e w1 ⟨rfl,hb1⟩;have HB1:=hid (And.intro (HB0.out.1.below hb1 HB0.out.1.lt) (HB0.out.2.trans (hb1.mono HB0.out.2.size)));clear hb1 HB0 HP k0
 by_cases hx:e0≠0
 ·rw [if_pos hx] at hR
  have HX:=hid hx;have HR:=hid hR;clear hR hx;go_wp2_with fail
  refine (need64_no _ _ HX.out _).mono ?_;rintro e w9 ⟨rfl,rfl⟩;exact ⟨rfl,by rw [←HR.out];exact (orFail_no _ HX.out).symm,HB1.out.2⟩
 rw [if_neg hx] at hR;obtain rfl:e0=0:=by simpa using hx
 clear hx;go_wp2_with fail
 refine (need64_ok _ _).mono ?_;rintro e w2 ⟨rfl,rfl⟩;have HB2:=hid (show Blk (w1.alloc (.cells #[.int .i64 x,.int .i64 0,.int .i64 0,.string ⟨#[]⟩,.string ⟨#[]⟩,.bool false,.int .i64 0,.int .i64 0,.int .i64 0,.int .i64 0,.int .i64 0,.int .i64 0,.int .i64 0] 62)) w.heap.size 62 #[.int .i64 0,.int .i64 0,.int .i64 0,.string ⟨#[]⟩,.string ⟨#[]⟩,.bool false,.int .i64 0,.int .i64 0,.int .i64 0,.int .i64 0,.int .i64 0,.int .i64 0,.int .i64 0]∧Blk (w1.alloc (.cells #[.int .i64 x,.int .i64 0,.int .i64 0,.string ⟨#[]⟩,.string ⟨#[]⟩,.bool false,.int .i64 0,.int .i64 0,.int .i64 0,.int .i64 0,.int .i64 0,.int .i64 0,.int .i64 0] 62)) w1.heap.size 62 #[.int .i64 x,.int .i64 0,.int .i64 0,.string ⟨#[]⟩,.string ⟨#[]⟩,.bool false,.int .i64 0,.int .i64 0,.int .i64 0,.int .i64 0,.int .i64 0,.int .i64 0,.int .i64 0]∧Below w.heap.size w (w1.alloc (.cells #[.int .i64 x,.int .i64 0,.int .i64 0,.string ⟨#[]⟩,.string ⟨#[]⟩,.bool false,.int .i64 0,.int .i64 0,.int .i64 0,.int .i64 0,.int .i64 0,.int .i64 0,.int .i64 0] 62))∧w.heap.size<w1.heap.size from ⟨HB1.out.1.alloc _,Blk.new' _ _ _ rfl,rbelow_alloc HB1.out.2 _,HB1.out.1.lt⟩);clear HB1;obtain ⟨-,k1,-,-⟩:=HRow.out _ HB2.out.2.2.1;go_wp2_with fail
 generalize w1.heap.size=g at *
 by_cases hx:(rulesR s1.data.toList).2≠0
 ·rw [if_pos hx] at hR
  refine (HRn.out _ _ HB2.out.2.2.1 hx).mono ?_;rintro e w3 ⟨rfl,hb3⟩;exact ⟨rfl,by rw [←hR];exact (orFail_no _ hx).symm,HB2.out.2.2.1.trans (hb3.mono HB2.out.2.2.1.size)⟩
 rw [if_neg hx] at hR;refine (HRu.out _ _ _ HB2.out.2.2.1 HB2.out.2.1 (by simpa using hx)).mono ?_;rintro e w3 ⟨rfl,hB3,hb3⟩;clear hx;generalize rulesR s1.data.toList=RR at *;obtain ⟨⟨kd,sv,sl⟩,r1⟩:=RR;obtain ⟨sn,rfl⟩:∃sn:ByteArray,sl=sn.data.toList:=⟨⟨sl.toArray⟩,by simp⟩;rw [ba_list] at hB3;have HB3:=hid (And.intro (show Blk w3 w.heap.size 62 #[.int .i64 0,.int .i64 0,.int .i64 0,.string ⟨#[]⟩,.string ⟨#[]⟩,.bool false,.int .i64 0,.int .i64 0,.int .i64 0,.int .i64 0,.int .i64 0,.int .i64 0,.int .i64 0] from HB2.out.1.but hb3 (by have:=HB2.out.2.2.2;omega)) (And.intro (hB3) (And.intro (show Below w.heap.size w w3 from hb3.below HB2.out.2.2.1 (by have:=HB2.out.2.2.2;omega) (Nat.le_refl _)) (HB2.out.2.2.2))));clear hB3 hb3 HB2 HRu HRn k1;obtain ⟨-,-,k2,-⟩:=HRow.out _ HB3.out.2.2.1;go_wp2_with fail
 refine (HF.out _).mono ?_;rintro e w4 ⟨rfl,hb4⟩;have HB4:=hid (And.intro (HB3.out.1.below hb4 HB3.out.1.lt) (And.intro (HB3.out.2.1.below hb4 HB3.out.2.1.lt) (And.intro (HB3.out.2.2.1.trans (hb4.mono HB3.out.2.2.1.size)) (HB3.out.2.2.2))));clear hb4 HB3 HF k2
 cases hf:fmtB s2.data.toList
 ·rw [if_pos hf] at hR
  have HR:=hid hR;clear hR hf;go_wp2_with fail
  refine (must_no _ _).mono ?_;rintro e w5 ⟨rfl,rfl⟩;exact ⟨rfl,by rw [←HR.out];rfl,HB4.out.2.2.1⟩
 rw [if_neg (by rw [hf];decide)] at hR;clear hf;go_wp2_with fail
 refine (must_yes _ _).mono ?_;rintro e w5 ⟨rfl,rfl⟩;obtain ⟨-,-,k2,-⟩:=HRow.out _ HB4.out.2.2.1;have q4:=HB4.out.2.1.cell_ (i:=4) rfl;have f4:=HB4.out.2.1.frozen 4;have hlt:=HB4.out.2.1.lt;rw [if_neg (by simp)] at hR;obtain ⟨w5,hw5⟩:∃W,(w4.setCell ⟨g,4,none⟩ (.string s2))=W:=⟨_,rfl⟩;have HB5:=hid (show Blk w5 w.heap.size 62 #[.int .i64 0,.int .i64 0,.int .i64 0,.string ⟨#[]⟩,.string ⟨#[]⟩,.bool false,.int .i64 0,.int .i64 0,.int .i64 0,.int .i64 0,.int .i64 0,.int .i64 0,.int .i64 0]∧Blk w5 g 62 #[.int .i64 x,.int .i64 kd,.int .i64 sv,.string sn,.string s2,.bool false,.int .i64 0,.int .i64 0,.int .i64 0,.int .i64 0,.int .i64 0,.int .i64 0,.int .i64 0]∧Below w.heap.size w w5∧w.heap.size<g from hw5 ▸ ⟨(HB4.out.1.far (show w.heap.size≠g by have:=HB4.out.2.2.2;omega) _),(HB4.out.2.1.set_ 4 _),(HB4.out.2.2.1.setCell (show w.heap.size≤g by have:=HB4.out.2.2.2;omega) _),HB4.out.2.2.2⟩)
 go_upto_region 9 with fail
 try simp only [hw5]
 clear hw5 HB4 q4 f4 hlt k2;obtain ⟨-,-,-,k3⟩:=HRow.out _ HB5.out.2.2.1;generalize yearR s3.data.toList=p3 at *;obtain ⟨yr,e3⟩:=p3;go_wp2_with fail
 refine (HY.out _ HB5.out.2.2.1).mono ?_;rintro e w6 ⟨rfl,hb6⟩;have HB6:=hid (And.intro (HB5.out.1.below hb6 HB5.out.1.lt) (And.intro (HB5.out.2.1.below hb6 HB5.out.2.1.lt) (And.intro (HB5.out.2.2.1.trans (hb6.mono HB5.out.2.2.1.size)) (HB5.out.2.2.2))));clear hb6 HB5 HY k3
 by_cases hx:e3≠0
 ·rw [if_pos hx] at hEE
  subst hEE;rw [if_pos hx] at hR;rw [orFail_no _ hx];exact ⟨rfl,by rw [←hR];exact (orFail_no _ hx).symm,HB6.out.2.2.1⟩
 rw [if_neg hx] at hEE;obtain rfl:e3=0:=by simpa using hx
 clear hx;simp only [orFail_ok];go_wp2_with fail
 refine (first_any _ _).mono ?_;rintro e w7 ⟨rfl,hb7⟩;have HB7:=hid (And.intro (HB6.out.1.below hb7 HB6.out.1.lt) (And.intro (HB6.out.2.1.below hb7 HB6.out.2.1.lt) (And.intro (HB6.out.2.2.1.trans (hb7.mono HB6.out.2.2.1.size)) (HB6.out.2.2.2))));clear hb7 HB6;have q5:=HB7.out.2.1.cell_ (i:=5) rfl;have f5:=HB7.out.2.1.frozen 5;have q6:=HB7.out.2.1.cell_ (i:=6) rfl;have f6:=HB7.out.2.1.frozen 6;have q7:=HB7.out.2.1.cell_ (i:=7) rfl;have f7:=HB7.out.2.1.frozen 7;have q8:=HB7.out.2.1.cell_ (i:=8) rfl;have f8:=HB7.out.2.1.frozen 8;have q9:=HB7.out.2.1.cell_ (i:=9) rfl;have f9:=HB7.out.2.1.frozen 9;have q10:=HB7.out.2.1.cell_ (i:=10) rfl;have f10:=HB7.out.2.1.frozen 10;have q11:=HB7.out.2.1.cell_ (i:=11) rfl;have f11:=HB7.out.2.1.frozen 11;have q12:=HB7.out.2.1.cell_ (i:=12) rfl;have f12:=HB7.out.2.1.frozen 12;have hlt:=HB7.out.2.1.lt;obtain ⟨w8,hw8⟩:∃W,((((((((w7.setCell ⟨g,5,none⟩ (.bool true)).setCell ⟨g,6,none⟩ (.int .i64 yr)).setCell ⟨g,7,none⟩ (.int .i64 1)).setCell ⟨g,8,none⟩ (.int .i64 1)).setCell ⟨g,9,none⟩ (.int .i64 0)).setCell ⟨g,10,none⟩ (.int .i64 1)).setCell ⟨g,11,none⟩ (.int .i64 0)).setCell ⟨g,12,none⟩ (.int .i64 0))=W:=⟨_,rfl⟩
 have HB8:=hid (show Blk w8 w.heap.size 62 #[.int .i64 0,.int .i64 0,.int .i64 0,.string ⟨#[]⟩,.string ⟨#[]⟩,.bool false,.int .i64 0,.int .i64 0,.int .i64 0,.int .i64 0,.int .i64 0,.int .i64 0,.int .i64 0]∧Blk w8 g 62 #[.int .i64 x,.int .i64 kd,.int .i64 sv,.string sn,.string s2,.bool true,.int .i64 yr,.int .i64 1,.int .i64 1,.int .i64 0,.int .i64 1,.int .i64 0,.int .i64 0]∧Below w.heap.size w w8∧w.heap.size<g from by
  rw [←hw8];exact ⟨Blk.farSets HB7.out.1 (show w.heap.size≠g by have:=HB7.out.2.2.2;omega) [.bool true,.int .i64 yr,.int .i64 1,.int .i64 1,.int .i64 0,.int .i64 1,.int .i64 0,.int .i64 0] 5,Blk.setMid [.int .i64 x,.int .i64 kd,.int .i64 sv,.string sn,.string s2] [.bool false,.int .i64 0,.int .i64 0,.int .i64 0,.int .i64 0,.int .i64 0,.int .i64 0,.int .i64 0] [.bool true,.int .i64 yr,.int .i64 1,.int .i64 1,.int .i64 0,.int .i64 1,.int .i64 0,.int .i64 0] [] HB7.out.2.1 rfl,below_sets (show w.heap.size≤g by have:=HB7.out.2.2.2;omega) [.bool true,.int .i64 yr,.int .i64 1,.int .i64 1,.int .i64 0,.int .i64 1,.int .i64 0,.int .i64 0] 5 _ HB7.out.2.2.1,HB7.out.2.2.2⟩)
 go_upto_region 16 with fail
 try simp only [hw8]
 clear hw8 HB7 q5 f5 q6 f6 q7 f7 q8 f8 q9 f9 q10 f10 q11 f11 q12 f12 hlt;rw [if_neg (by simp),if_neg (by simp),if_neg (by simp)] at hEE;subst hEE;rw [if_neg (by simp)] at hR;have HR:=hid hR;clear hR;obtain ⟨C,hCC⟩:∃C:Array Value,#[.int .i64 x,.int .i64 kd,.int .i64 sv,.string sn,.string s2,.bool true,.int .i64 yr,.int .i64 1,.int .i64 1,.int .i64 0,.int .i64 1,.int .i64 0,.int .i64 0]=C:=⟨_,rfl⟩;have Hi:=hid (show (Tryz.prog.info? 62).map (·.size)=some C.size∧C.all (·.oneCell')=true∧C.size=13 from hCC ▸ ⟨infoEra,by simp [Value.oneCell'],rfl⟩);rw [hCC] at HB8;have HCC:=hid hCC;clear hCC
 go_wp2_with (first
  | (refine wpList_load_row rfl 62 (.tmp 4) rfl g rfl 62 C (0,0) _ HB8.out.2.1 Tryz.underlying62 rfl Hi.out.1 ?_)
  | (refine wpList_store_mid rfl 62 (.tmp 2) (.tmp 77) rfl (w.heap.size) 0 C rfl rfl (HB8.out.1.there (by rw [Hi.out.2.2];decide)) Hi.out.1 Hi.out.2.1 ?_))
 refine bodyPost_ret (results_cell_row rfl _ _ (w.heap.size) 62 C (0,0) _ rfl (HB8.out.1.setAll C Hi.out.2.2) Tryz.underlying62 rfl Hi.out.1) rfl ⟨by rw [←HCC.out,←HR.out];exact read_fin (by rfl) (by simp [EraP.cells,UntilP.none]),below_sets (Nat.le_refl _) _ _ _ HB8.out.2.2.1⟩
theorem eread5 (b o c:Nat) (s0 s1 s2 s3 s4:ByteArray) (w:World) (hT:ETabs w) (hb:b<w.heap.size) (hs0:s0.size≤1048576) (hs1:s1.size≤1048576) (hs2:s2.size≤1048576) (hs3:s3.size≤1048576) (hs4:s4.size≤1048576)
 (c0:w.cell? ⟨b,o+0,none⟩=some (.string s0)) (c1:w.cell? ⟨b,o+1,none⟩=some (.string s1)) (c2:w.cell? ⟨b,o+2,none⟩=some (.string s2)) (c3:w.cell? ⟨b,o+3,none⟩=some (.string s3)) (c4:w.cell? ⟨b,o+4,none⟩=some (.string s4)) :
 Calls Tryz.prog 140 #[.slice (some ⟨b,o,none⟩) 5 c] w fun e w'=>e=orFail (.agg (eraR [s0.data.toList,s1.data.toList,s2.data.toList,s3.data.toList,s4.data.toList]).1.cells) (eraR [s0.data.toList,s1.data.toList,s2.data.toList,s3.data.toList,s4.data.toList]).2∧Below w.heap.size w w':=by
 obtain ⟨R,hR⟩:∃R,eraR [s0.data.toList,s1.data.toList,s2.data.toList,s3.data.toList,s4.data.toList]=R:=⟨_,rfl⟩;rw [hR];have HRow:=hid (show ∀W,Below w.heap.size w W→W.cell? ⟨b,o,none⟩=some (.string s0)∧W.cell? ⟨b,o+1,none⟩=some (.string s1)∧W.cell? ⟨b,o+2,none⟩=some (.string s2)∧W.cell? ⟨b,o+3,none⟩=some (.string s3)∧W.cell? ⟨b,o+4,none⟩=some (.string s4) from fun W hW=>⟨(hW.cell (p:=⟨b,o+0,none⟩) hb).trans c0,(hW.cell (p:=⟨b,o+1,none⟩) hb).trans c1,(hW.cell (p:=⟨b,o+2,none⟩) hb).trans c2,(hW.cell (p:=⟨b,o+3,none⟩) hb).trans c3,(hW.cell (p:=⟨b,o+4,none⟩) hb).trans c4⟩);unfold eraR at hR;rw [if_neg (by simp)] at hR;simp only [List.getD_cons_zero,List.getD_cons_succ] at hR;have HP:=hid (fun W (hW:Below w.heap.size w W)=>offParse_any s0 W hs0 (hT.below hW).units (hT.below hW).esyn);have HRu:=hid (fun W off g (hW:Below w.heap.size w W) hB hr=>erules_ok s1 off g W hs1 (hT.below hW) hB hr);have HRn:=hid (fun W g (hW:Below w.heap.size w W) hr=>erules_no s1 g W hs1 (hT.below hW) hr);have HF:=hid (fun W=>written_any s2 W hs2);have HY:=hid (fun W (hW:Below w.heap.size w W)=>eyear_any s3 W hs3 (hT.below hW).pows (hT.below hW).esyn (hT.below hW).eran);have HM:=hid (fun W (hW:Below w.heap.size w W)=>month_any s4 W (hT.below hW).months hs4);have hE:List.drop 3 [s0.data.toList,s1.data.toList,s2.data.toList,s3.data.toList,s4.data.toList]=[s3.data.toList,s4.data.toList]:=rfl;obtain ⟨EE,hEE⟩:∃EE,endR_ [s3.data.toList,s4.data.toList]=EE:=⟨_,rfl⟩;rw [hE,hEE] at hR;clear hE;unfold endR_ at hEE;simp only [List.getD_cons_zero,List.getD_cons_succ,List.length_cons,List.length_nil] at hEE;clear c0 c1 c2 c3 c4 hT;have HB0:=hid (And.intro (Blk.new' w 62 #[.int .i64 0,.int .i64 0,.int .i64 0,.string ⟨#[]⟩,.string ⟨#[]⟩,.bool false,.int .i64 0,.int .i64 0,.int .i64 0,.int .i64 0,.int .i64 0,.int .i64 0,.int .i64 0] rfl) ((Below.refl w.heap.size w).alloc (Nat.le_refl _) (.cells #[.int .i64 0,.int .i64 0,.int .i64 0,.string ⟨#[]⟩,.string ⟨#[]⟩,.bool false,.int .i64 0,.int .i64 0,.int .i64 0,.int .i64 0,.int .i64 0,.int .i64 0,.int .i64 0] 62)))
 go_enter Tryz.func140,Tryz.ntmps140;go_wp2_with fail
 refine (must_yes _ _).mono ?_;rintro e w1 ⟨rfl,rfl⟩;generalize offParseR s0.data.toList=p0 at *;obtain ⟨x,e0⟩:=p0;obtain ⟨k0,-,-,-,-⟩:=HRow.out _ HB0.out.2;go_wp2_with fail
 refine (HP.out _ HB0.out.2).mono ?_;rintro e w1 ⟨rfl,hb1⟩;have HB1:=hid (And.intro (HB0.out.1.below hb1 HB0.out.1.lt) (HB0.out.2.trans (hb1.mono HB0.out.2.size)));clear hb1 HB0 HP k0
 by_cases hx:e0≠0
 ·rw [if_pos hx] at hR
  have HX:=hid hx;have HR:=hid hR;clear hR hx;go_wp2_with fail
  refine (need64_no _ _ HX.out _).mono ?_;rintro e w9 ⟨rfl,rfl⟩;exact ⟨rfl,by rw [←HR.out];exact (orFail_no _ HX.out).symm,HB1.out.2⟩
 rw [if_neg hx] at hR;obtain rfl:e0=0:=by simpa using hx
 clear hx;go_wp2_with fail
 refine (need64_ok _ _).mono ?_;rintro e w2 ⟨rfl,rfl⟩;have HB2:=hid (show Blk (w1.alloc (.cells #[.int .i64 x,.int .i64 0,.int .i64 0,.string ⟨#[]⟩,.string ⟨#[]⟩,.bool false,.int .i64 0,.int .i64 0,.int .i64 0,.int .i64 0,.int .i64 0,.int .i64 0,.int .i64 0] 62)) w.heap.size 62 #[.int .i64 0,.int .i64 0,.int .i64 0,.string ⟨#[]⟩,.string ⟨#[]⟩,.bool false,.int .i64 0,.int .i64 0,.int .i64 0,.int .i64 0,.int .i64 0,.int .i64 0,.int .i64 0]∧Blk (w1.alloc (.cells #[.int .i64 x,.int .i64 0,.int .i64 0,.string ⟨#[]⟩,.string ⟨#[]⟩,.bool false,.int .i64 0,.int .i64 0,.int .i64 0,.int .i64 0,.int .i64 0,.int .i64 0,.int .i64 0] 62)) w1.heap.size 62 #[.int .i64 x,.int .i64 0,.int .i64 0,.string ⟨#[]⟩,.string ⟨#[]⟩,.bool false,.int .i64 0,.int .i64 0,.int .i64 0,.int .i64 0,.int .i64 0,.int .i64 0,.int .i64 0]∧Below w.heap.size w (w1.alloc (.cells #[.int .i64 x,.int .i64 0,.int .i64 0,.string ⟨#[]⟩,.string ⟨#[]⟩,.bool false,.int .i64 0,.int .i64 0,.int .i64 0,.int .i64 0,.int .i64 0,.int .i64 0,.int .i64 0] 62))∧w.heap.size<w1.heap.size from ⟨HB1.out.1.alloc _,Blk.new' _ _ _ rfl,rbelow_alloc HB1.out.2 _,HB1.out.1.lt⟩);clear HB1;obtain ⟨-,k1,-,-,-⟩:=HRow.out _ HB2.out.2.2.1;go_wp2_with fail
 generalize w1.heap.size=g at *
 by_cases hx:(rulesR s1.data.toList).2≠0
 ·rw [if_pos hx] at hR
  refine (HRn.out _ _ HB2.out.2.2.1 hx).mono ?_;rintro e w3 ⟨rfl,hb3⟩;exact ⟨rfl,by rw [←hR];exact (orFail_no _ hx).symm,HB2.out.2.2.1.trans (hb3.mono HB2.out.2.2.1.size)⟩
 rw [if_neg hx] at hR;refine (HRu.out _ _ _ HB2.out.2.2.1 HB2.out.2.1 (by simpa using hx)).mono ?_;rintro e w3 ⟨rfl,hB3,hb3⟩;clear hx;generalize rulesR s1.data.toList=RR at *;obtain ⟨⟨kd,sv,sl⟩,r1⟩:=RR;obtain ⟨sn,rfl⟩:∃sn:ByteArray,sl=sn.data.toList:=⟨⟨sl.toArray⟩,by simp⟩;rw [ba_list] at hB3;have HB3:=hid (And.intro (show Blk w3 w.heap.size 62 #[.int .i64 0,.int .i64 0,.int .i64 0,.string ⟨#[]⟩,.string ⟨#[]⟩,.bool false,.int .i64 0,.int .i64 0,.int .i64 0,.int .i64 0,.int .i64 0,.int .i64 0,.int .i64 0] from HB2.out.1.but hb3 (by have:=HB2.out.2.2.2;omega)) (And.intro (hB3) (And.intro (show Below w.heap.size w w3 from hb3.below HB2.out.2.2.1 (by have:=HB2.out.2.2.2;omega) (Nat.le_refl _)) (HB2.out.2.2.2))));clear hB3 hb3 HB2 HRu HRn k1;obtain ⟨-,-,k2,-,-⟩:=HRow.out _ HB3.out.2.2.1;go_wp2_with fail
 refine (HF.out _).mono ?_;rintro e w4 ⟨rfl,hb4⟩;have HB4:=hid (And.intro (HB3.out.1.below hb4 HB3.out.1.lt) (And.intro (HB3.out.2.1.below hb4 HB3.out.2.1.lt) (And.intro (HB3.out.2.2.1.trans (hb4.mono HB3.out.2.2.1.size)) (HB3.out.2.2.2))));clear hb4 HB3 HF k2
 cases hf:fmtB s2.data.toList
 ·rw [if_pos hf] at hR
  have HR:=hid hR;clear hR hf;go_wp2_with fail
  refine (must_no _ _).mono ?_;rintro e w5 ⟨rfl,rfl⟩;exact ⟨rfl,by rw [←HR.out];rfl,HB4.out.2.2.1⟩
 rw [if_neg (by rw [hf];decide)] at hR;clear hf;go_wp2_with fail
 refine (must_yes _ _).mono ?_;rintro e w5 ⟨rfl,rfl⟩;obtain ⟨-,-,k2,-,-⟩:=HRow.out _ HB4.out.2.2.1;have q4:=HB4.out.2.1.cell_ (i:=4) rfl;have f4:=HB4.out.2.1.frozen 4;have hlt:=HB4.out.2.1.lt;rw [if_neg (by simp)] at hR;obtain ⟨w5,hw5⟩:∃W,(w4.setCell ⟨g,4,none⟩ (.string s2))=W:=⟨_,rfl⟩;have HB5:=hid (show Blk w5 w.heap.size 62 #[.int .i64 0,.int .i64 0,.int .i64 0,.string ⟨#[]⟩,.string ⟨#[]⟩,.bool false,.int .i64 0,.int .i64 0,.int .i64 0,.int .i64 0,.int .i64 0,.int .i64 0,.int .i64 0]∧Blk w5 g 62 #[.int .i64 x,.int .i64 kd,.int .i64 sv,.string sn,.string s2,.bool false,.int .i64 0,.int .i64 0,.int .i64 0,.int .i64 0,.int .i64 0,.int .i64 0,.int .i64 0]∧Below w.heap.size w w5∧w.heap.size<g from hw5 ▸ ⟨(HB4.out.1.far (show w.heap.size≠g by have:=HB4.out.2.2.2;omega) _),(HB4.out.2.1.set_ 4 _),(HB4.out.2.2.1.setCell (show w.heap.size≤g by have:=HB4.out.2.2.2;omega) _),HB4.out.2.2.2⟩)
 go_upto_region 9 with fail
 try simp only [hw5]
 clear hw5 HB4 q4 f4 hlt k2;obtain ⟨-,-,-,k3,-⟩:=HRow.out _ HB5.out.2.2.1;generalize yearR s3.data.toList=p3 at *;obtain ⟨yr,e3⟩:=p3;go_wp2_with fail
 refine (HY.out _ HB5.out.2.2.1).mono ?_;rintro e w6 ⟨rfl,hb6⟩;have HB6:=hid (And.intro (HB5.out.1.below hb6 HB5.out.1.lt) (And.intro (HB5.out.2.1.below hb6 HB5.out.2.1.lt) (And.intro (HB5.out.2.2.1.trans (hb6.mono HB5.out.2.2.1.size)) (HB5.out.2.2.2))));clear hb6 HB5 HY k3
 by_cases hx:e3≠0
 ·rw [if_pos hx] at hEE
  subst hEE;rw [if_pos hx] at hR;rw [orFail_no _ hx];exact ⟨rfl,by rw [←hR];exact (orFail_no _ hx).symm,HB6.out.2.2.1⟩
 rw [if_neg hx] at hEE;obtain rfl:e3=0:=by simpa using hx
 clear hx;simp only [orFail_ok];go_wp2_with fail
 refine (first_any _ _).mono ?_;rintro e w7 ⟨rfl,hb7⟩;have HB7:=hid (And.intro (HB6.out.1.below hb7 HB6.out.1.lt) (And.intro (HB6.out.2.1.below hb7 HB6.out.2.1.lt) (And.intro (HB6.out.2.2.1.trans (hb7.mono HB6.out.2.2.1.size)) (HB6.out.2.2.2))));clear hb7 HB6;have q5:=HB7.out.2.1.cell_ (i:=5) rfl;have f5:=HB7.out.2.1.frozen 5;have q6:=HB7.out.2.1.cell_ (i:=6) rfl;have f6:=HB7.out.2.1.frozen 6;have q7:=HB7.out.2.1.cell_ (i:=7) rfl;have f7:=HB7.out.2.1.frozen 7;have q8:=HB7.out.2.1.cell_ (i:=8) rfl;have f8:=HB7.out.2.1.frozen 8;have q9:=HB7.out.2.1.cell_ (i:=9) rfl;have f9:=HB7.out.2.1.frozen 9;have q10:=HB7.out.2.1.cell_ (i:=10) rfl;have f10:=HB7.out.2.1.frozen 10;have q11:=HB7.out.2.1.cell_ (i:=11) rfl;have f11:=HB7.out.2.1.frozen 11;have q12:=HB7.out.2.1.cell_ (i:=12) rfl;have f12:=HB7.out.2.1.frozen 12;have hlt:=HB7.out.2.1.lt;obtain ⟨w8,hw8⟩:∃W,((((((((w7.setCell ⟨g,5,none⟩ (.bool true)).setCell ⟨g,6,none⟩ (.int .i64 yr)).setCell ⟨g,7,none⟩ (.int .i64 1)).setCell ⟨g,8,none⟩ (.int .i64 1)).setCell ⟨g,9,none⟩ (.int .i64 0)).setCell ⟨g,10,none⟩ (.int .i64 1)).setCell ⟨g,11,none⟩ (.int .i64 0)).setCell ⟨g,12,none⟩ (.int .i64 0))=W:=⟨_,rfl⟩
 have HB8:=hid (show Blk w8 w.heap.size 62 #[.int .i64 0,.int .i64 0,.int .i64 0,.string ⟨#[]⟩,.string ⟨#[]⟩,.bool false,.int .i64 0,.int .i64 0,.int .i64 0,.int .i64 0,.int .i64 0,.int .i64 0,.int .i64 0]∧Blk w8 g 62 #[.int .i64 x,.int .i64 kd,.int .i64 sv,.string sn,.string s2,.bool true,.int .i64 yr,.int .i64 1,.int .i64 1,.int .i64 0,.int .i64 1,.int .i64 0,.int .i64 0]∧Below w.heap.size w w8∧w.heap.size<g from by
  rw [←hw8];exact ⟨Blk.farSets HB7.out.1 (show w.heap.size≠g by have:=HB7.out.2.2.2;omega) [.bool true,.int .i64 yr,.int .i64 1,.int .i64 1,.int .i64 0,.int .i64 1,.int .i64 0,.int .i64 0] 5,Blk.setMid [.int .i64 x,.int .i64 kd,.int .i64 sv,.string sn,.string s2] [.bool false,.int .i64 0,.int .i64 0,.int .i64 0,.int .i64 0,.int .i64 0,.int .i64 0,.int .i64 0] [.bool true,.int .i64 yr,.int .i64 1,.int .i64 1,.int .i64 0,.int .i64 1,.int .i64 0,.int .i64 0] [] HB7.out.2.1 rfl,below_sets (show w.heap.size≤g by have:=HB7.out.2.2.2;omega) [.bool true,.int .i64 yr,.int .i64 1,.int .i64 1,.int .i64 0,.int .i64 1,.int .i64 0,.int .i64 0] 5 _ HB7.out.2.2.1,HB7.out.2.2.2⟩)
 go_upto_region 11 with fail
 try simp only [hw8]
 clear hw8 HB7 q5 f5 q6 f6 q7 f7 q8 f8 q9 f9 q10 f10 q11 f11 q12 f12 hlt;generalize wordR monthL 1 s4.data.toList=p4 at *;obtain ⟨mo,e4⟩:=p4;obtain ⟨-,-,-,-,k4⟩:=HRow.out _ HB8.out.2.2.1;go_wp2_with fail
 refine (HM.out _ HB8.out.2.2.1).mono ?_;rintro e w9 ⟨rfl,hb⟩;have HB9:=hid (And.intro (HB8.out.1.below hb HB8.out.1.lt) (And.intro (HB8.out.2.1.below hb HB8.out.2.1.lt) (And.intro (HB8.out.2.2.1.trans (hb.mono HB8.out.2.2.1.size)) (HB8.out.2.2.2))));clear hb HB8 HM k4
 by_cases hx:e4≠0
 ·rw [if_pos ⟨by simp,hx⟩] at hEE
  subst hEE;rw [if_pos hx] at hR;have HX:=hid hx;have HR:=hid hR;clear hR hx;go_wp2_with fail
  refine (needInt_no _ _ HX.out _).mono ?_;rintro e wz ⟨rfl,rfl⟩;exact ⟨rfl,by rw [←HR.out];exact (orFail_no _ HX.out).symm,HB9.out.2.2.1⟩
 rw [if_neg (fun h=>hx h.2)] at hEE;obtain rfl:e4=0:=by simpa using hx
 clear hx;go_wp2_with fail
 refine (needInt_ok _ _).mono ?_;rintro e w10 ⟨rfl,rfl⟩;have q7:=HB9.out.2.1.cell_ (i:=7) rfl;have f7:=HB9.out.2.1.frozen 7;have hlt:=HB9.out.2.1.lt;obtain ⟨w11,hw11⟩:∃W,(w9.setCell ⟨g,7,none⟩ (.int .i64 mo))=W:=⟨_,rfl⟩;have HB11:=hid (show Blk w11 w.heap.size 62 #[.int .i64 0,.int .i64 0,.int .i64 0,.string ⟨#[]⟩,.string ⟨#[]⟩,.bool false,.int .i64 0,.int .i64 0,.int .i64 0,.int .i64 0,.int .i64 0,.int .i64 0,.int .i64 0]∧Blk w11 g 62 #[.int .i64 x,.int .i64 kd,.int .i64 sv,.string sn,.string s2,.bool true,.int .i64 yr,.int .i64 mo,.int .i64 1,.int .i64 0,.int .i64 1,.int .i64 0,.int .i64 0]∧Below w.heap.size w w11∧w.heap.size<g from hw11 ▸ ⟨(HB9.out.1.far (show w.heap.size≠g by have:=HB9.out.2.2.2;omega) _),(HB9.out.2.1.set_ 7 _),(HB9.out.2.2.1.setCell (show w.heap.size≤g by have:=HB9.out.2.2.2;omega) _),HB9.out.2.2.2⟩)
 go_upto_region 16 with fail
 try simp only [hw11]
 clear hw11 HB9 q7 f7 hlt;rw [if_neg (by simp),if_neg (by simp)] at hEE;subst hEE;rw [if_neg (by simp)] at hR;have HR:=hid hR;clear hR;obtain ⟨C,hCC⟩:∃C:Array Value,#[.int .i64 x,.int .i64 kd,.int .i64 sv,.string sn,.string s2,.bool true,.int .i64 yr,.int .i64 mo,.int .i64 1,.int .i64 0,.int .i64 1,.int .i64 0,.int .i64 0]=C:=⟨_,rfl⟩;have Hi:=hid (show (Tryz.prog.info? 62).map (·.size)=some C.size∧C.all (·.oneCell')=true∧C.size=13 from hCC ▸ ⟨infoEra,by simp [Value.oneCell'],rfl⟩);rw [hCC] at HB11;have HCC:=hid hCC;clear hCC
 go_wp2_with (first
  | (refine wpList_load_row rfl 62 (.tmp 4) rfl g rfl 62 C (0,0) _ HB11.out.2.1 Tryz.underlying62 rfl Hi.out.1 ?_)
  | (refine wpList_store_mid rfl 62 (.tmp 2) (.tmp 77) rfl (w.heap.size) 0 C rfl rfl (HB11.out.1.there (by rw [Hi.out.2.2];decide)) Hi.out.1 Hi.out.2.1 ?_))
 refine bodyPost_ret (results_cell_row rfl _ _ (w.heap.size) 62 C (0,0) _ rfl (HB11.out.1.setAll C Hi.out.2.2) Tryz.underlying62 rfl Hi.out.1) rfl ⟨by rw [←HCC.out,←HR.out];exact read_fin (by rfl) (by simp [EraP.cells,UntilP.none]),below_sets (Nat.le_refl _) _ _ _ HB11.out.2.2.1⟩
theorem eread6 (b o c:Nat) (s0 s1 s2 s3 s4 s5:ByteArray) (w:World) (hT:ETabs w) (hb:b<w.heap.size) (hs0:s0.size≤1048576) (hs1:s1.size≤1048576) (hs2:s2.size≤1048576) (hs3:s3.size≤1048576) (hs4:s4.size≤1048576) (hs5:s5.size≤1048576)
 (c0:w.cell? ⟨b,o+0,none⟩=some (.string s0)) (c1:w.cell? ⟨b,o+1,none⟩=some (.string s1)) (c2:w.cell? ⟨b,o+2,none⟩=some (.string s2)) (c3:w.cell? ⟨b,o+3,none⟩=some (.string s3)) (c4:w.cell? ⟨b,o+4,none⟩=some (.string s4)) (c5:w.cell? ⟨b,o+5,none⟩=some (.string s5)) :
 Calls Tryz.prog 140 #[.slice (some ⟨b,o,none⟩) 6 c] w fun e w'=>e=orFail (.agg (eraR [s0.data.toList,s1.data.toList,s2.data.toList,s3.data.toList,s4.data.toList,s5.data.toList]).1.cells) (eraR [s0.data.toList,s1.data.toList,s2.data.toList,s3.data.toList,s4.data.toList,s5.data.toList]).2∧Below w.heap.size w w':=by
 obtain ⟨R,hR⟩:∃R,eraR [s0.data.toList,s1.data.toList,s2.data.toList,s3.data.toList,s4.data.toList,s5.data.toList]=R:=⟨_,rfl⟩;rw [hR];have HRow:=hid (show ∀W,Below w.heap.size w W→W.cell? ⟨b,o,none⟩=some (.string s0)∧W.cell? ⟨b,o+1,none⟩=some (.string s1)∧W.cell? ⟨b,o+2,none⟩=some (.string s2)∧W.cell? ⟨b,o+3,none⟩=some (.string s3)∧W.cell? ⟨b,o+4,none⟩=some (.string s4)∧W.cell? ⟨b,o+5,none⟩=some (.string s5) from fun W hW=>⟨(hW.cell (p:=⟨b,o+0,none⟩) hb).trans c0,(hW.cell (p:=⟨b,o+1,none⟩) hb).trans c1,(hW.cell (p:=⟨b,o+2,none⟩) hb).trans c2,(hW.cell (p:=⟨b,o+3,none⟩) hb).trans c3,(hW.cell (p:=⟨b,o+4,none⟩) hb).trans c4,(hW.cell (p:=⟨b,o+5,none⟩) hb).trans c5⟩);unfold eraR at hR;rw [if_neg (by simp)] at hR;simp only [List.getD_cons_zero,List.getD_cons_succ] at hR;have HP:=hid (fun W (hW:Below w.heap.size w W)=>offParse_any s0 W hs0 (hT.below hW).units (hT.below hW).esyn);have HRu:=hid (fun W off g (hW:Below w.heap.size w W) hB hr=>erules_ok s1 off g W hs1 (hT.below hW) hB hr);have HRn:=hid (fun W g (hW:Below w.heap.size w W) hr=>erules_no s1 g W hs1 (hT.below hW) hr);have HF:=hid (fun W=>written_any s2 W hs2);have HY:=hid (fun W (hW:Below w.heap.size w W)=>eyear_any s3 W hs3 (hT.below hW).pows (hT.below hW).esyn (hT.below hW).eran);have HM:=hid (fun W (hW:Below w.heap.size w W)=>month_any s4 W (hT.below hW).months hs4);have HDy:=hid (fun W (hW:Below w.heap.size w W)=>parse_any s5 hs5 W (hT.below hW).weeks (hT.below hW).folds);have hE:List.drop 3 [s0.data.toList,s1.data.toList,s2.data.toList,s3.data.toList,s4.data.toList,s5.data.toList]=[s3.data.toList,s4.data.toList,s5.data.toList]:=rfl;obtain ⟨EE,hEE⟩:∃EE,endR_ [s3.data.toList,s4.data.toList,s5.data.toList]=EE:=⟨_,rfl⟩;rw [hE,hEE] at hR;clear hE;unfold endR_ at hEE;simp only [List.getD_cons_zero,List.getD_cons_succ,List.length_cons,List.length_nil] at hEE;clear c0 c1 c2 c3 c4 c5 hT;have HB0:=hid (And.intro (Blk.new' w 62 #[.int .i64 0,.int .i64 0,.int .i64 0,.string ⟨#[]⟩,.string ⟨#[]⟩,.bool false,.int .i64 0,.int .i64 0,.int .i64 0,.int .i64 0,.int .i64 0,.int .i64 0,.int .i64 0] rfl) ((Below.refl w.heap.size w).alloc (Nat.le_refl _) (.cells #[.int .i64 0,.int .i64 0,.int .i64 0,.string ⟨#[]⟩,.string ⟨#[]⟩,.bool false,.int .i64 0,.int .i64 0,.int .i64 0,.int .i64 0,.int .i64 0,.int .i64 0,.int .i64 0] 62)))
 go_enter Tryz.func140,Tryz.ntmps140;go_wp2_with fail
 refine (must_yes _ _).mono ?_;rintro e w1 ⟨rfl,rfl⟩;generalize offParseR s0.data.toList=p0 at *;obtain ⟨x,e0⟩:=p0;obtain ⟨k0,-,-,-,-,-⟩:=HRow.out _ HB0.out.2;go_wp2_with fail
 refine (HP.out _ HB0.out.2).mono ?_;rintro e w1 ⟨rfl,hb1⟩;have HB1:=hid (And.intro (HB0.out.1.below hb1 HB0.out.1.lt) (HB0.out.2.trans (hb1.mono HB0.out.2.size)));clear hb1 HB0 HP k0
 by_cases hx:e0≠0
 ·rw [if_pos hx] at hR
  have HX:=hid hx;have HR:=hid hR;clear hR hx;go_wp2_with fail
  refine (need64_no _ _ HX.out _).mono ?_;rintro e w9 ⟨rfl,rfl⟩;exact ⟨rfl,by rw [←HR.out];exact (orFail_no _ HX.out).symm,HB1.out.2⟩
 rw [if_neg hx] at hR;obtain rfl:e0=0:=by simpa using hx
 clear hx;go_wp2_with fail
 refine (need64_ok _ _).mono ?_;rintro e w2 ⟨rfl,rfl⟩;have HB2:=hid (show Blk (w1.alloc (.cells #[.int .i64 x,.int .i64 0,.int .i64 0,.string ⟨#[]⟩,.string ⟨#[]⟩,.bool false,.int .i64 0,.int .i64 0,.int .i64 0,.int .i64 0,.int .i64 0,.int .i64 0,.int .i64 0] 62)) w.heap.size 62 #[.int .i64 0,.int .i64 0,.int .i64 0,.string ⟨#[]⟩,.string ⟨#[]⟩,.bool false,.int .i64 0,.int .i64 0,.int .i64 0,.int .i64 0,.int .i64 0,.int .i64 0,.int .i64 0]∧Blk (w1.alloc (.cells #[.int .i64 x,.int .i64 0,.int .i64 0,.string ⟨#[]⟩,.string ⟨#[]⟩,.bool false,.int .i64 0,.int .i64 0,.int .i64 0,.int .i64 0,.int .i64 0,.int .i64 0,.int .i64 0] 62)) w1.heap.size 62 #[.int .i64 x,.int .i64 0,.int .i64 0,.string ⟨#[]⟩,.string ⟨#[]⟩,.bool false,.int .i64 0,.int .i64 0,.int .i64 0,.int .i64 0,.int .i64 0,.int .i64 0,.int .i64 0]∧Below w.heap.size w (w1.alloc (.cells #[.int .i64 x,.int .i64 0,.int .i64 0,.string ⟨#[]⟩,.string ⟨#[]⟩,.bool false,.int .i64 0,.int .i64 0,.int .i64 0,.int .i64 0,.int .i64 0,.int .i64 0,.int .i64 0] 62))∧w.heap.size<w1.heap.size from ⟨HB1.out.1.alloc _,Blk.new' _ _ _ rfl,rbelow_alloc HB1.out.2 _,HB1.out.1.lt⟩);clear HB1;obtain ⟨-,k1,-,-,-,-⟩:=HRow.out _ HB2.out.2.2.1;go_wp2_with fail
 generalize w1.heap.size=g at *
 by_cases hx:(rulesR s1.data.toList).2≠0
 ·rw [if_pos hx] at hR
  refine (HRn.out _ _ HB2.out.2.2.1 hx).mono ?_;rintro e w3 ⟨rfl,hb3⟩;exact ⟨rfl,by rw [←hR];exact (orFail_no _ hx).symm,HB2.out.2.2.1.trans (hb3.mono HB2.out.2.2.1.size)⟩
 rw [if_neg hx] at hR;refine (HRu.out _ _ _ HB2.out.2.2.1 HB2.out.2.1 (by simpa using hx)).mono ?_;rintro e w3 ⟨rfl,hB3,hb3⟩;clear hx;generalize rulesR s1.data.toList=RR at *;obtain ⟨⟨kd,sv,sl⟩,r1⟩:=RR;obtain ⟨sn,rfl⟩:∃sn:ByteArray,sl=sn.data.toList:=⟨⟨sl.toArray⟩,by simp⟩;rw [ba_list] at hB3;have HB3:=hid (And.intro (show Blk w3 w.heap.size 62 #[.int .i64 0,.int .i64 0,.int .i64 0,.string ⟨#[]⟩,.string ⟨#[]⟩,.bool false,.int .i64 0,.int .i64 0,.int .i64 0,.int .i64 0,.int .i64 0,.int .i64 0,.int .i64 0] from HB2.out.1.but hb3 (by have:=HB2.out.2.2.2;omega)) (And.intro (hB3) (And.intro (show Below w.heap.size w w3 from hb3.below HB2.out.2.2.1 (by have:=HB2.out.2.2.2;omega) (Nat.le_refl _)) (HB2.out.2.2.2))));clear hB3 hb3 HB2 HRu HRn k1;obtain ⟨-,-,k2,-,-,-⟩:=HRow.out _ HB3.out.2.2.1;go_wp2_with fail
 refine (HF.out _).mono ?_;rintro e w4 ⟨rfl,hb4⟩;have HB4:=hid (And.intro (HB3.out.1.below hb4 HB3.out.1.lt) (And.intro (HB3.out.2.1.below hb4 HB3.out.2.1.lt) (And.intro (HB3.out.2.2.1.trans (hb4.mono HB3.out.2.2.1.size)) (HB3.out.2.2.2))));clear hb4 HB3 HF k2
 cases hf:fmtB s2.data.toList
 ·rw [if_pos hf] at hR
  have HR:=hid hR;clear hR hf;go_wp2_with fail
  refine (must_no _ _).mono ?_;rintro e w5 ⟨rfl,rfl⟩;exact ⟨rfl,by rw [←HR.out];rfl,HB4.out.2.2.1⟩
 rw [if_neg (by rw [hf];decide)] at hR;clear hf;go_wp2_with fail
 refine (must_yes _ _).mono ?_;rintro e w5 ⟨rfl,rfl⟩;obtain ⟨-,-,k2,-,-,-⟩:=HRow.out _ HB4.out.2.2.1;have q4:=HB4.out.2.1.cell_ (i:=4) rfl;have f4:=HB4.out.2.1.frozen 4;have hlt:=HB4.out.2.1.lt;rw [if_neg (by simp)] at hR;obtain ⟨w5,hw5⟩:∃W,(w4.setCell ⟨g,4,none⟩ (.string s2))=W:=⟨_,rfl⟩;have HB5:=hid (show Blk w5 w.heap.size 62 #[.int .i64 0,.int .i64 0,.int .i64 0,.string ⟨#[]⟩,.string ⟨#[]⟩,.bool false,.int .i64 0,.int .i64 0,.int .i64 0,.int .i64 0,.int .i64 0,.int .i64 0,.int .i64 0]∧Blk w5 g 62 #[.int .i64 x,.int .i64 kd,.int .i64 sv,.string sn,.string s2,.bool false,.int .i64 0,.int .i64 0,.int .i64 0,.int .i64 0,.int .i64 0,.int .i64 0,.int .i64 0]∧Below w.heap.size w w5∧w.heap.size<g from hw5 ▸ ⟨(HB4.out.1.far (show w.heap.size≠g by have:=HB4.out.2.2.2;omega) _),(HB4.out.2.1.set_ 4 _),(HB4.out.2.2.1.setCell (show w.heap.size≤g by have:=HB4.out.2.2.2;omega) _),HB4.out.2.2.2⟩)
 go_upto_region 9 with fail
 try simp only [hw5]
 clear hw5 HB4 q4 f4 hlt k2;obtain ⟨-,-,-,k3,-,-⟩:=HRow.out _ HB5.out.2.2.1;generalize yearR s3.data.toList=p3 at *;obtain ⟨yr,e3⟩:=p3;go_wp2_with fail
 refine (HY.out _ HB5.out.2.2.1).mono ?_;rintro e w6 ⟨rfl,hb6⟩;have HB6:=hid (And.intro (HB5.out.1.below hb6 HB5.out.1.lt) (And.intro (HB5.out.2.1.below hb6 HB5.out.2.1.lt) (And.intro (HB5.out.2.2.1.trans (hb6.mono HB5.out.2.2.1.size)) (HB5.out.2.2.2))));clear hb6 HB5 HY k3
 by_cases hx:e3≠0
 ·rw [if_pos hx] at hEE
  subst hEE;rw [if_pos hx] at hR;rw [orFail_no _ hx];exact ⟨rfl,by rw [←hR];exact (orFail_no _ hx).symm,HB6.out.2.2.1⟩
 rw [if_neg hx] at hEE;obtain rfl:e3=0:=by simpa using hx
 clear hx;simp only [orFail_ok];go_wp2_with fail
 refine (first_any _ _).mono ?_;rintro e w7 ⟨rfl,hb7⟩;have HB7:=hid (And.intro (HB6.out.1.below hb7 HB6.out.1.lt) (And.intro (HB6.out.2.1.below hb7 HB6.out.2.1.lt) (And.intro (HB6.out.2.2.1.trans (hb7.mono HB6.out.2.2.1.size)) (HB6.out.2.2.2))));clear hb7 HB6;have q5:=HB7.out.2.1.cell_ (i:=5) rfl;have f5:=HB7.out.2.1.frozen 5;have q6:=HB7.out.2.1.cell_ (i:=6) rfl;have f6:=HB7.out.2.1.frozen 6;have q7:=HB7.out.2.1.cell_ (i:=7) rfl;have f7:=HB7.out.2.1.frozen 7;have q8:=HB7.out.2.1.cell_ (i:=8) rfl;have f8:=HB7.out.2.1.frozen 8;have q9:=HB7.out.2.1.cell_ (i:=9) rfl;have f9:=HB7.out.2.1.frozen 9;have q10:=HB7.out.2.1.cell_ (i:=10) rfl;have f10:=HB7.out.2.1.frozen 10;have q11:=HB7.out.2.1.cell_ (i:=11) rfl;have f11:=HB7.out.2.1.frozen 11;have q12:=HB7.out.2.1.cell_ (i:=12) rfl;have f12:=HB7.out.2.1.frozen 12;have hlt:=HB7.out.2.1.lt;obtain ⟨w8,hw8⟩:∃W,((((((((w7.setCell ⟨g,5,none⟩ (.bool true)).setCell ⟨g,6,none⟩ (.int .i64 yr)).setCell ⟨g,7,none⟩ (.int .i64 1)).setCell ⟨g,8,none⟩ (.int .i64 1)).setCell ⟨g,9,none⟩ (.int .i64 0)).setCell ⟨g,10,none⟩ (.int .i64 1)).setCell ⟨g,11,none⟩ (.int .i64 0)).setCell ⟨g,12,none⟩ (.int .i64 0))=W:=⟨_,rfl⟩
 have HB8:=hid (show Blk w8 w.heap.size 62 #[.int .i64 0,.int .i64 0,.int .i64 0,.string ⟨#[]⟩,.string ⟨#[]⟩,.bool false,.int .i64 0,.int .i64 0,.int .i64 0,.int .i64 0,.int .i64 0,.int .i64 0,.int .i64 0]∧Blk w8 g 62 #[.int .i64 x,.int .i64 kd,.int .i64 sv,.string sn,.string s2,.bool true,.int .i64 yr,.int .i64 1,.int .i64 1,.int .i64 0,.int .i64 1,.int .i64 0,.int .i64 0]∧Below w.heap.size w w8∧w.heap.size<g from by
  rw [←hw8];exact ⟨Blk.farSets HB7.out.1 (show w.heap.size≠g by have:=HB7.out.2.2.2;omega) [.bool true,.int .i64 yr,.int .i64 1,.int .i64 1,.int .i64 0,.int .i64 1,.int .i64 0,.int .i64 0] 5,Blk.setMid [.int .i64 x,.int .i64 kd,.int .i64 sv,.string sn,.string s2] [.bool false,.int .i64 0,.int .i64 0,.int .i64 0,.int .i64 0,.int .i64 0,.int .i64 0,.int .i64 0] [.bool true,.int .i64 yr,.int .i64 1,.int .i64 1,.int .i64 0,.int .i64 1,.int .i64 0,.int .i64 0] [] HB7.out.2.1 rfl,below_sets (show w.heap.size≤g by have:=HB7.out.2.2.2;omega) [.bool true,.int .i64 yr,.int .i64 1,.int .i64 1,.int .i64 0,.int .i64 1,.int .i64 0,.int .i64 0] 5 _ HB7.out.2.2.1,HB7.out.2.2.2⟩)
 go_upto_region 11 with fail
 try simp only [hw8]
 clear hw8 HB7 q5 f5 q6 f6 q7 f7 q8 f8 q9 f9 q10 f10 q11 f11 q12 f12 hlt;generalize wordR monthL 1 s4.data.toList=p4 at *;obtain ⟨mo,e4⟩:=p4;obtain ⟨-,-,-,-,k4,-⟩:=HRow.out _ HB8.out.2.2.1;go_wp2_with fail
 refine (HM.out _ HB8.out.2.2.1).mono ?_;rintro e w9 ⟨rfl,hb⟩;have HB9:=hid (And.intro (HB8.out.1.below hb HB8.out.1.lt) (And.intro (HB8.out.2.1.below hb HB8.out.2.1.lt) (And.intro (HB8.out.2.2.1.trans (hb.mono HB8.out.2.2.1.size)) (HB8.out.2.2.2))));clear hb HB8 HM k4
 by_cases hx:e4≠0
 ·rw [if_pos ⟨by simp,hx⟩] at hEE
  subst hEE;rw [if_pos hx] at hR;have HX:=hid hx;have HR:=hid hR;clear hR hx;go_wp2_with fail
  refine (needInt_no _ _ HX.out _).mono ?_;rintro e wz ⟨rfl,rfl⟩;exact ⟨rfl,by rw [←HR.out];exact (orFail_no _ HX.out).symm,HB9.out.2.2.1⟩
 rw [if_neg (fun h=>hx h.2)] at hEE;obtain rfl:e4=0:=by simpa using hx
 clear hx;go_wp2_with fail
 refine (needInt_ok _ _).mono ?_;rintro e w10 ⟨rfl,rfl⟩;have q7:=HB9.out.2.1.cell_ (i:=7) rfl;have f7:=HB9.out.2.1.frozen 7;have hlt:=HB9.out.2.1.lt;obtain ⟨w11,hw11⟩:∃W,(w9.setCell ⟨g,7,none⟩ (.int .i64 mo))=W:=⟨_,rfl⟩;have HB11:=hid (show Blk w11 w.heap.size 62 #[.int .i64 0,.int .i64 0,.int .i64 0,.string ⟨#[]⟩,.string ⟨#[]⟩,.bool false,.int .i64 0,.int .i64 0,.int .i64 0,.int .i64 0,.int .i64 0,.int .i64 0,.int .i64 0]∧Blk w11 g 62 #[.int .i64 x,.int .i64 kd,.int .i64 sv,.string sn,.string s2,.bool true,.int .i64 yr,.int .i64 mo,.int .i64 1,.int .i64 0,.int .i64 1,.int .i64 0,.int .i64 0]∧Below w.heap.size w w11∧w.heap.size<g from hw11 ▸ ⟨(HB9.out.1.far (show w.heap.size≠g by have:=HB9.out.2.2.2;omega) _),(HB9.out.2.1.set_ 7 _),(HB9.out.2.2.1.setCell (show w.heap.size≤g by have:=HB9.out.2.2.2;omega) _),HB9.out.2.2.2⟩)
 go_upto_region 13 with fail
 try simp only [hw11]
 clear hw11 HB9 q7 f7 hlt;generalize parseR s5.data.toList=p5 at *;obtain ⟨⟨d1,d2,d3⟩,e5⟩:=p5;simp only [dayV] at HDy;obtain ⟨-,-,-,-,-,k5⟩:=HRow.out _ HB11.out.2.2.1;go_wp2_with fail
 refine (HDy.out _ HB11.out.2.2.1).mono ?_;rintro e w12 ⟨rfl,hb⟩;have HB12:=hid (And.intro (HB11.out.1.below hb HB11.out.1.lt) (And.intro (HB11.out.2.1.below hb HB11.out.2.1.lt) (And.intro (HB11.out.2.2.1.trans (hb.mono HB11.out.2.2.1.size)) (HB11.out.2.2.2))));clear hb HB11 HDy k5
 by_cases hx:e5≠0
 ·rw [if_pos ⟨by simp,hx⟩] at hEE
  subst hEE;rw [if_pos hx] at hR;have HX:=hid hx;have HR:=hid hR;clear hR hx;go_wp2_with fail
  refine (needDay_no _ _ _ _ HX.out _).mono ?_;rintro e wz ⟨rfl,hb9⟩;exact ⟨rfl,by rw [←HR.out];exact (orFail_no _ HX.out).symm,HB12.out.2.2.1.trans (hb9.mono HB12.out.2.2.1.size)⟩
 rw [if_neg (fun h=>hx h.2)] at hEE;obtain rfl:e5=0:=by simpa using hx
 clear hx;go_wp2_with fail
 refine (needDay_ok _ _ _ _).mono ?_;rintro e w13 ⟨rfl,hb⟩;have HB13:=hid (And.intro (HB12.out.1.below hb HB12.out.1.lt) (And.intro (HB12.out.2.1.below hb HB12.out.2.1.lt) (And.intro (HB12.out.2.2.1.trans (hb.mono HB12.out.2.2.1.size)) (HB12.out.2.2.2))));clear hb HB12;have q8:=HB13.out.2.1.cell_ (i:=8) rfl;have f8:=HB13.out.2.1.frozen 8;have q9:=HB13.out.2.1.cell_ (i:=9) rfl;have f9:=HB13.out.2.1.frozen 9;have q10:=HB13.out.2.1.cell_ (i:=10) rfl;have f10:=HB13.out.2.1.frozen 10;have hlt:=HB13.out.2.1.lt;obtain ⟨w14,hw14⟩:∃W,(((w13.setCell ⟨g,8,none⟩ (.int .i64 d1)).setCell ⟨g,9,none⟩ (.int .i64 d2)).setCell ⟨g,10,none⟩ (.int .i64 d3))=W:=⟨_,rfl⟩
 have HB14:=hid (show Blk w14 w.heap.size 62 #[.int .i64 0,.int .i64 0,.int .i64 0,.string ⟨#[]⟩,.string ⟨#[]⟩,.bool false,.int .i64 0,.int .i64 0,.int .i64 0,.int .i64 0,.int .i64 0,.int .i64 0,.int .i64 0]∧Blk w14 g 62 #[.int .i64 x,.int .i64 kd,.int .i64 sv,.string sn,.string s2,.bool true,.int .i64 yr,.int .i64 mo,.int .i64 d1,.int .i64 d2,.int .i64 d3,.int .i64 0,.int .i64 0]∧Below w.heap.size w w14∧w.heap.size<g from by
  rw [←hw14];exact ⟨Blk.farSets HB13.out.1 (show w.heap.size≠g by have:=HB13.out.2.2.2;omega) [.int .i64 d1,.int .i64 d2,.int .i64 d3] 8,Blk.setMid [.int .i64 x,.int .i64 kd,.int .i64 sv,.string sn,.string s2,.bool true,.int .i64 yr,.int .i64 mo] [.int .i64 1,.int .i64 0,.int .i64 1] [.int .i64 d1,.int .i64 d2,.int .i64 d3] [.int .i64 0,.int .i64 0] HB13.out.2.1 rfl,below_sets (show w.heap.size≤g by have:=HB13.out.2.2.2;omega) [.int .i64 d1,.int .i64 d2,.int .i64 d3] 8 _ HB13.out.2.2.1,HB13.out.2.2.2⟩)
 go_upto_region 16 with fail
 try simp only [hw14]
 clear hw14 HB13 q8 f8 q9 f9 q10 f10 hlt;rw [if_neg (by simp)] at hEE;subst hEE;rw [if_neg (by simp)] at hR;have HR:=hid hR;clear hR;obtain ⟨C,hCC⟩:∃C:Array Value,#[.int .i64 x,.int .i64 kd,.int .i64 sv,.string sn,.string s2,.bool true,.int .i64 yr,.int .i64 mo,.int .i64 d1,.int .i64 d2,.int .i64 d3,.int .i64 0,.int .i64 0]=C:=⟨_,rfl⟩;have Hi:=hid (show (Tryz.prog.info? 62).map (·.size)=some C.size∧C.all (·.oneCell')=true∧C.size=13 from hCC ▸ ⟨infoEra,by simp [Value.oneCell'],rfl⟩);rw [hCC] at HB14;have HCC:=hid hCC;clear hCC
 go_wp2_with (first
  | (refine wpList_load_row rfl 62 (.tmp 4) rfl g rfl 62 C (0,0) _ HB14.out.2.1 Tryz.underlying62 rfl Hi.out.1 ?_)
  | (refine wpList_store_mid rfl 62 (.tmp 2) (.tmp 77) rfl (w.heap.size) 0 C rfl rfl (HB14.out.1.there (by rw [Hi.out.2.2];decide)) Hi.out.1 Hi.out.2.1 ?_))
 refine bodyPost_ret (results_cell_row rfl _ _ (w.heap.size) 62 C (0,0) _ rfl (HB14.out.1.setAll C Hi.out.2.2) Tryz.underlying62 rfl Hi.out.1) rfl ⟨by rw [←HCC.out,←HR.out];exact read_fin (by rfl) (by simp [EraP.cells,UntilP.none]),below_sets (Nat.le_refl _) _ _ _ HB14.out.2.2.1⟩
theorem eread7 (b o c:Nat) (s0 s1 s2 s3 s4 s5 s6:ByteArray) (w:World) (hT:ETabs w) (hb:b<w.heap.size) (hs0:s0.size≤1048576) (hs1:s1.size≤1048576) (hs2:s2.size≤1048576) (hs3:s3.size≤1048576) (hs4:s4.size≤1048576) (hs5:s5.size≤1048576) (hs6:s6.size≤1048576)
 (c0:w.cell? ⟨b,o+0,none⟩=some (.string s0)) (c1:w.cell? ⟨b,o+1,none⟩=some (.string s1)) (c2:w.cell? ⟨b,o+2,none⟩=some (.string s2)) (c3:w.cell? ⟨b,o+3,none⟩=some (.string s3)) (c4:w.cell? ⟨b,o+4,none⟩=some (.string s4)) (c5:w.cell? ⟨b,o+5,none⟩=some (.string s5)) (c6:w.cell? ⟨b,o+6,none⟩=some (.string s6)) :
 Calls Tryz.prog 140 #[.slice (some ⟨b,o,none⟩) 7 c] w fun e w'=>e=orFail (.agg (eraR [s0.data.toList,s1.data.toList,s2.data.toList,s3.data.toList,s4.data.toList,s5.data.toList,s6.data.toList]).1.cells) (eraR [s0.data.toList,s1.data.toList,s2.data.toList,s3.data.toList,s4.data.toList,s5.data.toList,s6.data.toList]).2∧Below w.heap.size w w':=by
 obtain ⟨R,hR⟩:∃R,eraR [s0.data.toList,s1.data.toList,s2.data.toList,s3.data.toList,s4.data.toList,s5.data.toList,s6.data.toList]=R:=⟨_,rfl⟩;rw [hR];have HRow:=hid (show ∀W,Below w.heap.size w W→W.cell? ⟨b,o,none⟩=some (.string s0)∧W.cell? ⟨b,o+1,none⟩=some (.string s1)∧W.cell? ⟨b,o+2,none⟩=some (.string s2)∧W.cell? ⟨b,o+3,none⟩=some (.string s3)∧W.cell? ⟨b,o+4,none⟩=some (.string s4)∧W.cell? ⟨b,o+5,none⟩=some (.string s5)∧W.cell? ⟨b,o+6,none⟩=some (.string s6) from fun W hW=>⟨(hW.cell (p:=⟨b,o+0,none⟩) hb).trans c0,(hW.cell (p:=⟨b,o+1,none⟩) hb).trans c1,(hW.cell (p:=⟨b,o+2,none⟩) hb).trans c2,(hW.cell (p:=⟨b,o+3,none⟩) hb).trans c3,(hW.cell (p:=⟨b,o+4,none⟩) hb).trans c4,(hW.cell (p:=⟨b,o+5,none⟩) hb).trans c5,(hW.cell (p:=⟨b,o+6,none⟩) hb).trans c6⟩);unfold eraR at hR;rw [if_neg (by simp)] at hR;simp only [List.getD_cons_zero,List.getD_cons_succ] at hR;have HP:=hid (fun W (hW:Below w.heap.size w W)=>offParse_any s0 W hs0 (hT.below hW).units (hT.below hW).esyn);have HRu:=hid (fun W off g (hW:Below w.heap.size w W) hB hr=>erules_ok s1 off g W hs1 (hT.below hW) hB hr);have HRn:=hid (fun W g (hW:Below w.heap.size w W) hr=>erules_no s1 g W hs1 (hT.below hW) hr);have HF:=hid (fun W=>written_any s2 W hs2);have HY:=hid (fun W (hW:Below w.heap.size w W)=>eyear_any s3 W hs3 (hT.below hW).pows (hT.below hW).esyn (hT.below hW).eran);have HM:=hid (fun W (hW:Below w.heap.size w W)=>month_any s4 W (hT.below hW).months hs4);have HDy:=hid (fun W (hW:Below w.heap.size w W)=>parse_any s5 hs5 W (hT.below hW).weeks (hT.below hW).folds);have HCl:=hid (fun W (hW:Below w.heap.size w W)=>clockParse_any s6 W hs6 (hT.below hW).units (hT.below hW).esyn);have hE:List.drop 3 [s0.data.toList,s1.data.toList,s2.data.toList,s3.data.toList,s4.data.toList,s5.data.toList,s6.data.toList]=[s3.data.toList,s4.data.toList,s5.data.toList,s6.data.toList]:=rfl;obtain ⟨EE,hEE⟩:∃EE,endR_ [s3.data.toList,s4.data.toList,s5.data.toList,s6.data.toList]=EE:=⟨_,rfl⟩;rw [hE,hEE] at hR;clear hE;unfold endR_ at hEE;simp only [List.getD_cons_zero,List.getD_cons_succ,List.length_cons,List.length_nil] at hEE;clear c0 c1 c2 c3 c4 c5 c6 hT;have HB0:=hid (And.intro (Blk.new' w 62 #[.int .i64 0,.int .i64 0,.int .i64 0,.string ⟨#[]⟩,.string ⟨#[]⟩,.bool false,.int .i64 0,.int .i64 0,.int .i64 0,.int .i64 0,.int .i64 0,.int .i64 0,.int .i64 0] rfl) ((Below.refl w.heap.size w).alloc (Nat.le_refl _) (.cells #[.int .i64 0,.int .i64 0,.int .i64 0,.string ⟨#[]⟩,.string ⟨#[]⟩,.bool false,.int .i64 0,.int .i64 0,.int .i64 0,.int .i64 0,.int .i64 0,.int .i64 0,.int .i64 0] 62)))
 go_enter Tryz.func140,Tryz.ntmps140;go_wp2_with fail
 refine (must_yes _ _).mono ?_;rintro e w1 ⟨rfl,rfl⟩;generalize offParseR s0.data.toList=p0 at *;obtain ⟨x,e0⟩:=p0;obtain ⟨k0,-,-,-,-,-,-⟩:=HRow.out _ HB0.out.2;go_wp2_with fail
 refine (HP.out _ HB0.out.2).mono ?_;rintro e w1 ⟨rfl,hb1⟩;have HB1:=hid (And.intro (HB0.out.1.below hb1 HB0.out.1.lt) (HB0.out.2.trans (hb1.mono HB0.out.2.size)));clear hb1 HB0 HP k0
 by_cases hx:e0≠0
 ·rw [if_pos hx] at hR
  have HX:=hid hx;have HR:=hid hR;clear hR hx;go_wp2_with fail
  refine (need64_no _ _ HX.out _).mono ?_;rintro e w9 ⟨rfl,rfl⟩;exact ⟨rfl,by rw [←HR.out];exact (orFail_no _ HX.out).symm,HB1.out.2⟩
 rw [if_neg hx] at hR;obtain rfl:e0=0:=by simpa using hx
 clear hx;go_wp2_with fail
 refine (need64_ok _ _).mono ?_;rintro e w2 ⟨rfl,rfl⟩;have HB2:=hid (show Blk (w1.alloc (.cells #[.int .i64 x,.int .i64 0,.int .i64 0,.string ⟨#[]⟩,.string ⟨#[]⟩,.bool false,.int .i64 0,.int .i64 0,.int .i64 0,.int .i64 0,.int .i64 0,.int .i64 0,.int .i64 0] 62)) w.heap.size 62 #[.int .i64 0,.int .i64 0,.int .i64 0,.string ⟨#[]⟩,.string ⟨#[]⟩,.bool false,.int .i64 0,.int .i64 0,.int .i64 0,.int .i64 0,.int .i64 0,.int .i64 0,.int .i64 0]∧Blk (w1.alloc (.cells #[.int .i64 x,.int .i64 0,.int .i64 0,.string ⟨#[]⟩,.string ⟨#[]⟩,.bool false,.int .i64 0,.int .i64 0,.int .i64 0,.int .i64 0,.int .i64 0,.int .i64 0,.int .i64 0] 62)) w1.heap.size 62 #[.int .i64 x,.int .i64 0,.int .i64 0,.string ⟨#[]⟩,.string ⟨#[]⟩,.bool false,.int .i64 0,.int .i64 0,.int .i64 0,.int .i64 0,.int .i64 0,.int .i64 0,.int .i64 0]∧Below w.heap.size w (w1.alloc (.cells #[.int .i64 x,.int .i64 0,.int .i64 0,.string ⟨#[]⟩,.string ⟨#[]⟩,.bool false,.int .i64 0,.int .i64 0,.int .i64 0,.int .i64 0,.int .i64 0,.int .i64 0,.int .i64 0] 62))∧w.heap.size<w1.heap.size from ⟨HB1.out.1.alloc _,Blk.new' _ _ _ rfl,rbelow_alloc HB1.out.2 _,HB1.out.1.lt⟩);clear HB1;obtain ⟨-,k1,-,-,-,-,-⟩:=HRow.out _ HB2.out.2.2.1;go_wp2_with fail
 generalize w1.heap.size=g at *
 by_cases hx:(rulesR s1.data.toList).2≠0
 ·rw [if_pos hx] at hR
  refine (HRn.out _ _ HB2.out.2.2.1 hx).mono ?_;rintro e w3 ⟨rfl,hb3⟩;exact ⟨rfl,by rw [←hR];exact (orFail_no _ hx).symm,HB2.out.2.2.1.trans (hb3.mono HB2.out.2.2.1.size)⟩
 rw [if_neg hx] at hR;refine (HRu.out _ _ _ HB2.out.2.2.1 HB2.out.2.1 (by simpa using hx)).mono ?_;rintro e w3 ⟨rfl,hB3,hb3⟩;clear hx;generalize rulesR s1.data.toList=RR at *;obtain ⟨⟨kd,sv,sl⟩,r1⟩:=RR;obtain ⟨sn,rfl⟩:∃sn:ByteArray,sl=sn.data.toList:=⟨⟨sl.toArray⟩,by simp⟩;rw [ba_list] at hB3;have HB3:=hid (And.intro (show Blk w3 w.heap.size 62 #[.int .i64 0,.int .i64 0,.int .i64 0,.string ⟨#[]⟩,.string ⟨#[]⟩,.bool false,.int .i64 0,.int .i64 0,.int .i64 0,.int .i64 0,.int .i64 0,.int .i64 0,.int .i64 0] from HB2.out.1.but hb3 (by have:=HB2.out.2.2.2;omega)) (And.intro (hB3) (And.intro (show Below w.heap.size w w3 from hb3.below HB2.out.2.2.1 (by have:=HB2.out.2.2.2;omega) (Nat.le_refl _)) (HB2.out.2.2.2))));clear hB3 hb3 HB2 HRu HRn k1;obtain ⟨-,-,k2,-,-,-,-⟩:=HRow.out _ HB3.out.2.2.1;go_wp2_with fail
 refine (HF.out _).mono ?_;rintro e w4 ⟨rfl,hb4⟩;have HB4:=hid (And.intro (HB3.out.1.below hb4 HB3.out.1.lt) (And.intro (HB3.out.2.1.below hb4 HB3.out.2.1.lt) (And.intro (HB3.out.2.2.1.trans (hb4.mono HB3.out.2.2.1.size)) (HB3.out.2.2.2))));clear hb4 HB3 HF k2
 cases hf:fmtB s2.data.toList
 ·rw [if_pos hf] at hR
  have HR:=hid hR;clear hR hf;go_wp2_with fail
  refine (must_no _ _).mono ?_;rintro e w5 ⟨rfl,rfl⟩;exact ⟨rfl,by rw [←HR.out];rfl,HB4.out.2.2.1⟩
 rw [if_neg (by rw [hf];decide)] at hR;clear hf;go_wp2_with fail
 refine (must_yes _ _).mono ?_;rintro e w5 ⟨rfl,rfl⟩;obtain ⟨-,-,k2,-,-,-,-⟩:=HRow.out _ HB4.out.2.2.1;have q4:=HB4.out.2.1.cell_ (i:=4) rfl;have f4:=HB4.out.2.1.frozen 4;have hlt:=HB4.out.2.1.lt;rw [if_neg (by simp)] at hR;obtain ⟨w5,hw5⟩:∃W,(w4.setCell ⟨g,4,none⟩ (.string s2))=W:=⟨_,rfl⟩;have HB5:=hid (show Blk w5 w.heap.size 62 #[.int .i64 0,.int .i64 0,.int .i64 0,.string ⟨#[]⟩,.string ⟨#[]⟩,.bool false,.int .i64 0,.int .i64 0,.int .i64 0,.int .i64 0,.int .i64 0,.int .i64 0,.int .i64 0]∧Blk w5 g 62 #[.int .i64 x,.int .i64 kd,.int .i64 sv,.string sn,.string s2,.bool false,.int .i64 0,.int .i64 0,.int .i64 0,.int .i64 0,.int .i64 0,.int .i64 0,.int .i64 0]∧Below w.heap.size w w5∧w.heap.size<g from hw5 ▸ ⟨(HB4.out.1.far (show w.heap.size≠g by have:=HB4.out.2.2.2;omega) _),(HB4.out.2.1.set_ 4 _),(HB4.out.2.2.1.setCell (show w.heap.size≤g by have:=HB4.out.2.2.2;omega) _),HB4.out.2.2.2⟩)
 go_upto_region 9 with fail
 try simp only [hw5]
 clear hw5 HB4 q4 f4 hlt k2;obtain ⟨-,-,-,k3,-,-,-⟩:=HRow.out _ HB5.out.2.2.1;generalize yearR s3.data.toList=p3 at *;obtain ⟨yr,e3⟩:=p3;go_wp2_with fail
 refine (HY.out _ HB5.out.2.2.1).mono ?_;rintro e w6 ⟨rfl,hb6⟩;have HB6:=hid (And.intro (HB5.out.1.below hb6 HB5.out.1.lt) (And.intro (HB5.out.2.1.below hb6 HB5.out.2.1.lt) (And.intro (HB5.out.2.2.1.trans (hb6.mono HB5.out.2.2.1.size)) (HB5.out.2.2.2))));clear hb6 HB5 HY k3
 by_cases hx:e3≠0
 ·rw [if_pos hx] at hEE
  subst hEE;rw [if_pos hx] at hR;rw [orFail_no _ hx];exact ⟨rfl,by rw [←hR];exact (orFail_no _ hx).symm,HB6.out.2.2.1⟩
 rw [if_neg hx] at hEE;obtain rfl:e3=0:=by simpa using hx
 clear hx;simp only [orFail_ok];go_wp2_with fail
 refine (first_any _ _).mono ?_;rintro e w7 ⟨rfl,hb7⟩;have HB7:=hid (And.intro (HB6.out.1.below hb7 HB6.out.1.lt) (And.intro (HB6.out.2.1.below hb7 HB6.out.2.1.lt) (And.intro (HB6.out.2.2.1.trans (hb7.mono HB6.out.2.2.1.size)) (HB6.out.2.2.2))));clear hb7 HB6;have q5:=HB7.out.2.1.cell_ (i:=5) rfl;have f5:=HB7.out.2.1.frozen 5;have q6:=HB7.out.2.1.cell_ (i:=6) rfl;have f6:=HB7.out.2.1.frozen 6;have q7:=HB7.out.2.1.cell_ (i:=7) rfl;have f7:=HB7.out.2.1.frozen 7;have q8:=HB7.out.2.1.cell_ (i:=8) rfl;have f8:=HB7.out.2.1.frozen 8;have q9:=HB7.out.2.1.cell_ (i:=9) rfl;have f9:=HB7.out.2.1.frozen 9;have q10:=HB7.out.2.1.cell_ (i:=10) rfl;have f10:=HB7.out.2.1.frozen 10;have q11:=HB7.out.2.1.cell_ (i:=11) rfl;have f11:=HB7.out.2.1.frozen 11;have q12:=HB7.out.2.1.cell_ (i:=12) rfl;have f12:=HB7.out.2.1.frozen 12;have hlt:=HB7.out.2.1.lt;obtain ⟨w8,hw8⟩:∃W,((((((((w7.setCell ⟨g,5,none⟩ (.bool true)).setCell ⟨g,6,none⟩ (.int .i64 yr)).setCell ⟨g,7,none⟩ (.int .i64 1)).setCell ⟨g,8,none⟩ (.int .i64 1)).setCell ⟨g,9,none⟩ (.int .i64 0)).setCell ⟨g,10,none⟩ (.int .i64 1)).setCell ⟨g,11,none⟩ (.int .i64 0)).setCell ⟨g,12,none⟩ (.int .i64 0))=W:=⟨_,rfl⟩
 have HB8:=hid (show Blk w8 w.heap.size 62 #[.int .i64 0,.int .i64 0,.int .i64 0,.string ⟨#[]⟩,.string ⟨#[]⟩,.bool false,.int .i64 0,.int .i64 0,.int .i64 0,.int .i64 0,.int .i64 0,.int .i64 0,.int .i64 0]∧Blk w8 g 62 #[.int .i64 x,.int .i64 kd,.int .i64 sv,.string sn,.string s2,.bool true,.int .i64 yr,.int .i64 1,.int .i64 1,.int .i64 0,.int .i64 1,.int .i64 0,.int .i64 0]∧Below w.heap.size w w8∧w.heap.size<g from by
  rw [←hw8];exact ⟨Blk.farSets HB7.out.1 (show w.heap.size≠g by have:=HB7.out.2.2.2;omega) [.bool true,.int .i64 yr,.int .i64 1,.int .i64 1,.int .i64 0,.int .i64 1,.int .i64 0,.int .i64 0] 5,Blk.setMid [.int .i64 x,.int .i64 kd,.int .i64 sv,.string sn,.string s2] [.bool false,.int .i64 0,.int .i64 0,.int .i64 0,.int .i64 0,.int .i64 0,.int .i64 0,.int .i64 0] [.bool true,.int .i64 yr,.int .i64 1,.int .i64 1,.int .i64 0,.int .i64 1,.int .i64 0,.int .i64 0] [] HB7.out.2.1 rfl,below_sets (show w.heap.size≤g by have:=HB7.out.2.2.2;omega) [.bool true,.int .i64 yr,.int .i64 1,.int .i64 1,.int .i64 0,.int .i64 1,.int .i64 0,.int .i64 0] 5 _ HB7.out.2.2.1,HB7.out.2.2.2⟩)
 go_upto_region 11 with fail
 try simp only [hw8]
 clear hw8 HB7 q5 f5 q6 f6 q7 f7 q8 f8 q9 f9 q10 f10 q11 f11 q12 f12 hlt;generalize wordR monthL 1 s4.data.toList=p4 at *;obtain ⟨mo,e4⟩:=p4;obtain ⟨-,-,-,-,k4,-,-⟩:=HRow.out _ HB8.out.2.2.1;go_wp2_with fail
 refine (HM.out _ HB8.out.2.2.1).mono ?_;rintro e w9 ⟨rfl,hb⟩;have HB9:=hid (And.intro (HB8.out.1.below hb HB8.out.1.lt) (And.intro (HB8.out.2.1.below hb HB8.out.2.1.lt) (And.intro (HB8.out.2.2.1.trans (hb.mono HB8.out.2.2.1.size)) (HB8.out.2.2.2))));clear hb HB8 HM k4
 by_cases hx:e4≠0
 ·rw [if_pos ⟨by simp,hx⟩] at hEE
  subst hEE;rw [if_pos hx] at hR;have HX:=hid hx;have HR:=hid hR;clear hR hx;go_wp2_with fail
  refine (needInt_no _ _ HX.out _).mono ?_;rintro e wz ⟨rfl,rfl⟩;exact ⟨rfl,by rw [←HR.out];exact (orFail_no _ HX.out).symm,HB9.out.2.2.1⟩
 rw [if_neg (fun h=>hx h.2)] at hEE;obtain rfl:e4=0:=by simpa using hx
 clear hx;go_wp2_with fail
 refine (needInt_ok _ _).mono ?_;rintro e w10 ⟨rfl,rfl⟩;have q7:=HB9.out.2.1.cell_ (i:=7) rfl;have f7:=HB9.out.2.1.frozen 7;have hlt:=HB9.out.2.1.lt;obtain ⟨w11,hw11⟩:∃W,(w9.setCell ⟨g,7,none⟩ (.int .i64 mo))=W:=⟨_,rfl⟩;have HB11:=hid (show Blk w11 w.heap.size 62 #[.int .i64 0,.int .i64 0,.int .i64 0,.string ⟨#[]⟩,.string ⟨#[]⟩,.bool false,.int .i64 0,.int .i64 0,.int .i64 0,.int .i64 0,.int .i64 0,.int .i64 0,.int .i64 0]∧Blk w11 g 62 #[.int .i64 x,.int .i64 kd,.int .i64 sv,.string sn,.string s2,.bool true,.int .i64 yr,.int .i64 mo,.int .i64 1,.int .i64 0,.int .i64 1,.int .i64 0,.int .i64 0]∧Below w.heap.size w w11∧w.heap.size<g from hw11 ▸ ⟨(HB9.out.1.far (show w.heap.size≠g by have:=HB9.out.2.2.2;omega) _),(HB9.out.2.1.set_ 7 _),(HB9.out.2.2.1.setCell (show w.heap.size≤g by have:=HB9.out.2.2.2;omega) _),HB9.out.2.2.2⟩)
 go_upto_region 13 with fail
 try simp only [hw11]
 clear hw11 HB9 q7 f7 hlt;generalize parseR s5.data.toList=p5 at *;obtain ⟨⟨d1,d2,d3⟩,e5⟩:=p5;simp only [dayV] at HDy;obtain ⟨-,-,-,-,-,k5,-⟩:=HRow.out _ HB11.out.2.2.1;go_wp2_with fail
 refine (HDy.out _ HB11.out.2.2.1).mono ?_;rintro e w12 ⟨rfl,hb⟩;have HB12:=hid (And.intro (HB11.out.1.below hb HB11.out.1.lt) (And.intro (HB11.out.2.1.below hb HB11.out.2.1.lt) (And.intro (HB11.out.2.2.1.trans (hb.mono HB11.out.2.2.1.size)) (HB11.out.2.2.2))));clear hb HB11 HDy k5
 by_cases hx:e5≠0
 ·rw [if_pos ⟨by simp,hx⟩] at hEE
  subst hEE;rw [if_pos hx] at hR;have HX:=hid hx;have HR:=hid hR;clear hR hx;go_wp2_with fail
  refine (needDay_no _ _ _ _ HX.out _).mono ?_;rintro e wz ⟨rfl,hb9⟩;exact ⟨rfl,by rw [←HR.out];exact (orFail_no _ HX.out).symm,HB12.out.2.2.1.trans (hb9.mono HB12.out.2.2.1.size)⟩
 rw [if_neg (fun h=>hx h.2)] at hEE;obtain rfl:e5=0:=by simpa using hx
 clear hx;go_wp2_with fail
 refine (needDay_ok _ _ _ _).mono ?_;rintro e w13 ⟨rfl,hb⟩;have HB13:=hid (And.intro (HB12.out.1.below hb HB12.out.1.lt) (And.intro (HB12.out.2.1.below hb HB12.out.2.1.lt) (And.intro (HB12.out.2.2.1.trans (hb.mono HB12.out.2.2.1.size)) (HB12.out.2.2.2))));clear hb HB12;have q8:=HB13.out.2.1.cell_ (i:=8) rfl;have f8:=HB13.out.2.1.frozen 8;have q9:=HB13.out.2.1.cell_ (i:=9) rfl;have f9:=HB13.out.2.1.frozen 9;have q10:=HB13.out.2.1.cell_ (i:=10) rfl;have f10:=HB13.out.2.1.frozen 10;have hlt:=HB13.out.2.1.lt;obtain ⟨w14,hw14⟩:∃W,(((w13.setCell ⟨g,8,none⟩ (.int .i64 d1)).setCell ⟨g,9,none⟩ (.int .i64 d2)).setCell ⟨g,10,none⟩ (.int .i64 d3))=W:=⟨_,rfl⟩
 have HB14:=hid (show Blk w14 w.heap.size 62 #[.int .i64 0,.int .i64 0,.int .i64 0,.string ⟨#[]⟩,.string ⟨#[]⟩,.bool false,.int .i64 0,.int .i64 0,.int .i64 0,.int .i64 0,.int .i64 0,.int .i64 0,.int .i64 0]∧Blk w14 g 62 #[.int .i64 x,.int .i64 kd,.int .i64 sv,.string sn,.string s2,.bool true,.int .i64 yr,.int .i64 mo,.int .i64 d1,.int .i64 d2,.int .i64 d3,.int .i64 0,.int .i64 0]∧Below w.heap.size w w14∧w.heap.size<g from by
  rw [←hw14];exact ⟨Blk.farSets HB13.out.1 (show w.heap.size≠g by have:=HB13.out.2.2.2;omega) [.int .i64 d1,.int .i64 d2,.int .i64 d3] 8,Blk.setMid [.int .i64 x,.int .i64 kd,.int .i64 sv,.string sn,.string s2,.bool true,.int .i64 yr,.int .i64 mo] [.int .i64 1,.int .i64 0,.int .i64 1] [.int .i64 d1,.int .i64 d2,.int .i64 d3] [.int .i64 0,.int .i64 0] HB13.out.2.1 rfl,below_sets (show w.heap.size≤g by have:=HB13.out.2.2.2;omega) [.int .i64 d1,.int .i64 d2,.int .i64 d3] 8 _ HB13.out.2.2.1,HB13.out.2.2.2⟩)
 go_upto_region 15 with fail
 try simp only [hw14]
 clear hw14 HB13 q8 f8 q9 f9 q10 f10 hlt;generalize clockR s6.data.toList=p6 at *;obtain ⟨⟨h1,h2⟩,e6⟩:=p6;obtain ⟨-,-,-,-,-,-,k6⟩:=HRow.out _ HB14.out.2.2.1;go_wp2_with fail
 refine (HCl.out _ HB14.out.2.2.1).mono ?_;rintro e w15 ⟨rfl,hb⟩;have HB15:=hid (And.intro (HB14.out.1.below hb HB14.out.1.lt) (And.intro (HB14.out.2.1.below hb HB14.out.2.1.lt) (And.intro (HB14.out.2.2.1.trans (hb.mono HB14.out.2.2.1.size)) (HB14.out.2.2.2))));clear hb HB14 HCl k6
 by_cases hx:e6≠0
 ·rw [if_pos ⟨by simp,hx⟩] at hEE
  subst hEE;rw [if_pos hx] at hR;have HX:=hid hx;have HR:=hid hR;clear hR hx;go_wp2_with fail
  refine (needClock_no _ _ _ HX.out _).mono ?_;rintro e wz ⟨rfl,hb9⟩;exact ⟨rfl,by rw [←HR.out];exact (orFail_no _ HX.out).symm,HB15.out.2.2.1.trans (hb9.mono HB15.out.2.2.1.size)⟩
 rw [if_neg (fun h=>hx h.2)] at hEE;obtain rfl:e6=0:=by simpa using hx
 clear hx;go_wp2_with fail
 refine (needClock_ok _ _ _).mono ?_;rintro e w16 ⟨rfl,hb⟩;have HB16:=hid (And.intro (HB15.out.1.below hb HB15.out.1.lt) (And.intro (HB15.out.2.1.below hb HB15.out.2.1.lt) (And.intro (HB15.out.2.2.1.trans (hb.mono HB15.out.2.2.1.size)) (HB15.out.2.2.2))));clear hb HB15;have q11:=HB16.out.2.1.cell_ (i:=11) rfl;have f11:=HB16.out.2.1.frozen 11;have q12:=HB16.out.2.1.cell_ (i:=12) rfl;have f12:=HB16.out.2.1.frozen 12;have hlt:=HB16.out.2.1.lt;obtain ⟨w17,hw17⟩:∃W,((w16.setCell ⟨g,11,none⟩ (.int .i64 h1)).setCell ⟨g,12,none⟩ (.int .i64 h2))=W:=⟨_,rfl⟩
 have HB17:=hid (show Blk w17 w.heap.size 62 #[.int .i64 0,.int .i64 0,.int .i64 0,.string ⟨#[]⟩,.string ⟨#[]⟩,.bool false,.int .i64 0,.int .i64 0,.int .i64 0,.int .i64 0,.int .i64 0,.int .i64 0,.int .i64 0]∧Blk w17 g 62 #[.int .i64 x,.int .i64 kd,.int .i64 sv,.string sn,.string s2,.bool true,.int .i64 yr,.int .i64 mo,.int .i64 d1,.int .i64 d2,.int .i64 d3,.int .i64 h1,.int .i64 h2]∧Below w.heap.size w w17∧w.heap.size<g from by
  rw [←hw17];exact ⟨Blk.farSets HB16.out.1 (show w.heap.size≠g by have:=HB16.out.2.2.2;omega) [.int .i64 h1,.int .i64 h2] 11,Blk.setMid [.int .i64 x,.int .i64 kd,.int .i64 sv,.string sn,.string s2,.bool true,.int .i64 yr,.int .i64 mo,.int .i64 d1,.int .i64 d2,.int .i64 d3] [.int .i64 0,.int .i64 0] [.int .i64 h1,.int .i64 h2] [] HB16.out.2.1 rfl,below_sets (show w.heap.size≤g by have:=HB16.out.2.2.2;omega) [.int .i64 h1,.int .i64 h2] 11 _ HB16.out.2.2.1,HB16.out.2.2.2⟩)
 go_upto_region 16 with fail
 try simp only [hw17]
 clear hw17 HB16 q11 f11 q12 f12 hlt;subst hEE;rw [if_neg (by simp)] at hR;have HR:=hid hR;clear hR;obtain ⟨C,hCC⟩:∃C:Array Value,#[.int .i64 x,.int .i64 kd,.int .i64 sv,.string sn,.string s2,.bool true,.int .i64 yr,.int .i64 mo,.int .i64 d1,.int .i64 d2,.int .i64 d3,.int .i64 h1,.int .i64 h2]=C:=⟨_,rfl⟩;have Hi:=hid (show (Tryz.prog.info? 62).map (·.size)=some C.size∧C.all (·.oneCell')=true∧C.size=13 from hCC ▸ ⟨infoEra,by simp [Value.oneCell'],rfl⟩);rw [hCC] at HB17;have HCC:=hid hCC;clear hCC
 go_wp2_with (first
  | (refine wpList_load_row rfl 62 (.tmp 4) rfl g rfl 62 C (0,0) _ HB17.out.2.1 Tryz.underlying62 rfl Hi.out.1 ?_)
  | (refine wpList_store_mid rfl 62 (.tmp 2) (.tmp 77) rfl (w.heap.size) 0 C rfl rfl (HB17.out.1.there (by rw [Hi.out.2.2];decide)) Hi.out.1 Hi.out.2.1 ?_))
 refine bodyPost_ret (results_cell_row rfl _ _ (w.heap.size) 62 C (0,0) _ rfl (HB17.out.1.setAll C Hi.out.2.2) Tryz.underlying62 rfl Hi.out.1) rfl ⟨by rw [←HCC.out,←HR.out];exact read_fin (by rfl) (by simp [EraP.cells,UntilP.none]),below_sets (Nat.le_refl _) _ _ _ HB17.out.2.2.1⟩
theorem eread_bad (A:Option Addr) (n c:Nat) (ls:List (List UInt8)) (w:World) (hn:ls.length=n) (h:n<3∨7<n) (hm:n≤1000000) :
 Calls Tryz.prog 140 #[.slice A n c] w fun e w'=>e=orFail (.agg (eraR ls).1.cells) (eraR ls).2∧Below w.heap.size w w':=by
 rw [show eraR ls=(EraP.none,5) from if_pos (by omega)];have HB0:=hid ((Below.refl w.heap.size w).alloc (Nat.le_refl _) (.cells #[.int .i64 0,.int .i64 0,.int .i64 0,.string ⟨#[]⟩,.string ⟨#[]⟩,.bool false,.int .i64 0,.int .i64 0,.int .i64 0,.int .i64 0,.int .i64 0,.int .i64 0,.int .i64 0] 62))
 rcases (by omega:n<3∨(3≤n∧7<n)) with h1|⟨h1,h2⟩
 ·have d1:decide (3≤n)=false:=decide_eq_false (by omega)
  have d2:decide ((3:Int)≤(n:Int))=false:=decide_eq_false (by omega);clear h hn
  go_enter Tryz.func140,Tryz.ntmps140;go_wp2_with fail
  refine (must_no _ _).mono ?_;rintro e w1 ⟨rfl,rfl⟩;exact ⟨rfl,rfl,HB0.out⟩
 ·have d1:decide (3≤n)=true:=decide_eq_true (by omega)
  have d2:decide ((3:Int)≤(n:Int))=true:=decide_eq_true (by omega);have d3:decide (n≤7)=false:=decide_eq_false (by omega);have d4:decide ((n:Int)≤7)=false:=decide_eq_false (by omega);clear h hn
  go_enter Tryz.func140,Tryz.ntmps140;go_wp2_with fail
  refine (must_no _ _).mono ?_;rintro e w1 ⟨rfl,rfl⟩;exact ⟨rfl,rfl,HB0.out⟩
theorem asBa (l:List UInt8):∃s:ByteArray,l=s.data.toList:=⟨⟨l.toArray⟩,by simp⟩
theorem eread_any (A:Option Addr) (n c:Nat) (ls:List (List UInt8)) (w:World) (hT:ETabs w) (hr:StrArg w A ls) (hn:ls.length=n) (hl:∀l ∈ ls,l.length≤1048576) (hm:n≤1000000) :
 Calls Tryz.prog 140 #[.slice A n c] w fun e w'=>e=orFail (.agg (eraR ls).1.cells) (eraR ls).2∧Below w.heap.size w w':=by
 by_cases h:n<3∨7<n
 ·exact eread_bad A n c ls w hn h hm
 ·obtain ⟨b,o,rfl,hrow⟩:=hr.row (by intro h0;subst h0;simp at hn;omega)
  have hat:=hrow.at_
  rcases (by omega:n=3∨n=4∨n=5∨n=6∨n=7) with rfl|rfl|rfl|rfl|rfl
  ·obtain ⟨a0,a1,a2,rfl⟩:∃a0 a1 a2,ls=[a0,a1,a2]:=by
    match ls,hn with
    | [a0,a1,a2],_=>exact ⟨a0,a1,a2,rfl⟩
   obtain ⟨s0,rfl⟩:=asBa a0;obtain ⟨s1,rfl⟩:=asBa a1;obtain ⟨s2,rfl⟩:=asBa a2;exact eread3 b o c s0 s1 s2 w hT hrow.lt (by have:=hl s0.data.toList (by simp);simpa using this) (by have:=hl s1.data.toList (by simp);simpa using this) (by have:=hl s2.data.toList (by simp);simpa using this) (by have:=hat 0 _ rfl;rwa [ba_list] at this) (by have:=hat 1 _ rfl;rwa [ba_list] at this) (by have:=hat 2 _ rfl;rwa [ba_list] at this)
  ·obtain ⟨a0,a1,a2,a3,rfl⟩:∃a0 a1 a2 a3,ls=[a0,a1,a2,a3]:=by
    match ls,hn with
    | [a0,a1,a2,a3],_=>exact ⟨a0,a1,a2,a3,rfl⟩
   obtain ⟨s0,rfl⟩:=asBa a0;obtain ⟨s1,rfl⟩:=asBa a1;obtain ⟨s2,rfl⟩:=asBa a2;obtain ⟨s3,rfl⟩:=asBa a3;exact eread4 b o c s0 s1 s2 s3 w hT hrow.lt (by have:=hl s0.data.toList (by simp);simpa using this) (by have:=hl s1.data.toList (by simp);simpa using this) (by have:=hl s2.data.toList (by simp);simpa using this) (by have:=hl s3.data.toList (by simp);simpa using this) (by have:=hat 0 _ rfl;rwa [ba_list] at this) (by have:=hat 1 _ rfl;rwa [ba_list] at this) (by have:=hat 2 _ rfl;rwa [ba_list] at this) (by have:=hat 3 _ rfl;rwa [ba_list] at this)
  ·obtain ⟨a0,a1,a2,a3,a4,rfl⟩:∃a0 a1 a2 a3 a4,ls=[a0,a1,a2,a3,a4]:=by
    match ls,hn with
    | [a0,a1,a2,a3,a4],_=>exact ⟨a0,a1,a2,a3,a4,rfl⟩
   obtain ⟨s0,rfl⟩:=asBa a0;obtain ⟨s1,rfl⟩:=asBa a1;obtain ⟨s2,rfl⟩:=asBa a2;obtain ⟨s3,rfl⟩:=asBa a3;obtain ⟨s4,rfl⟩:=asBa a4;exact eread5 b o c s0 s1 s2 s3 s4 w hT hrow.lt (by have:=hl s0.data.toList (by simp);simpa using this) (by have:=hl s1.data.toList (by simp);simpa using this) (by have:=hl s2.data.toList (by simp);simpa using this) (by have:=hl s3.data.toList (by simp);simpa using this) (by have:=hl s4.data.toList (by simp);simpa using this) (by have:=hat 0 _ rfl;rwa [ba_list] at this) (by have:=hat 1 _ rfl;rwa [ba_list] at this) (by have:=hat 2 _ rfl;rwa [ba_list] at this) (by have:=hat 3 _ rfl;rwa [ba_list] at this) (by have:=hat 4 _ rfl;rwa [ba_list] at this)
  ·obtain ⟨a0,a1,a2,a3,a4,a5,rfl⟩:∃a0 a1 a2 a3 a4 a5,ls=[a0,a1,a2,a3,a4,a5]:=by
    match ls,hn with
    | [a0,a1,a2,a3,a4,a5],_=>exact ⟨a0,a1,a2,a3,a4,a5,rfl⟩
   obtain ⟨s0,rfl⟩:=asBa a0;obtain ⟨s1,rfl⟩:=asBa a1;obtain ⟨s2,rfl⟩:=asBa a2;obtain ⟨s3,rfl⟩:=asBa a3;obtain ⟨s4,rfl⟩:=asBa a4;obtain ⟨s5,rfl⟩:=asBa a5;exact eread6 b o c s0 s1 s2 s3 s4 s5 w hT hrow.lt (by have:=hl s0.data.toList (by simp);simpa using this) (by have:=hl s1.data.toList (by simp);simpa using this) (by have:=hl s2.data.toList (by simp);simpa using this) (by have:=hl s3.data.toList (by simp);simpa using this) (by have:=hl s4.data.toList (by simp);simpa using this) (by have:=hl s5.data.toList (by simp);simpa using this) (by have:=hat 0 _ rfl;rwa [ba_list] at this) (by have:=hat 1 _ rfl;rwa [ba_list] at this) (by have:=hat 2 _ rfl;rwa [ba_list] at this) (by have:=hat 3 _ rfl;rwa [ba_list] at this) (by have:=hat 4 _ rfl;rwa [ba_list] at this) (by have:=hat 5 _ rfl;rwa [ba_list] at this)
  ·obtain ⟨a0,a1,a2,a3,a4,a5,a6,rfl⟩:∃a0 a1 a2 a3 a4 a5 a6,ls=[a0,a1,a2,a3,a4,a5,a6]:=by
    match ls,hn with
    | [a0,a1,a2,a3,a4,a5,a6],_=>exact ⟨a0,a1,a2,a3,a4,a5,a6,rfl⟩
   obtain ⟨s0,rfl⟩:=asBa a0;obtain ⟨s1,rfl⟩:=asBa a1;obtain ⟨s2,rfl⟩:=asBa a2;obtain ⟨s3,rfl⟩:=asBa a3;obtain ⟨s4,rfl⟩:=asBa a4;obtain ⟨s5,rfl⟩:=asBa a5;obtain ⟨s6,rfl⟩:=asBa a6;exact eread7 b o c s0 s1 s2 s3 s4 s5 s6 w hT hrow.lt (by have:=hl s0.data.toList (by simp);simpa using this) (by have:=hl s1.data.toList (by simp);simpa using this) (by have:=hl s2.data.toList (by simp);simpa using this) (by have:=hl s3.data.toList (by simp);simpa using this) (by have:=hl s4.data.toList (by simp);simpa using this) (by have:=hl s5.data.toList (by simp);simpa using this) (by have:=hl s6.data.toList (by simp);simpa using this) (by have:=hat 0 _ rfl;rwa [ba_list] at this) (by have:=hat 1 _ rfl;rwa [ba_list] at this) (by have:=hat 2 _ rfl;rwa [ba_list] at this) (by have:=hat 3 _ rfl;rwa [ba_list] at this) (by have:=hat 4 _ rfl;rwa [ba_list] at this) (by have:=hat 5 _ rfl;rwa [ba_list] at this) (by have:=hat 6 _ rfl;rwa [ba_list] at this)
theorem era_size (e:EraP):e.cells.size=13:=rfl
theorem era_one (e:EraP):e.cells.all (·.oneCell')=true:=by simp [EraP.cells,Value.oneCell']
theorem parse1_ok (A:Option Addr) (n c a g:Nat) (C:Array Value) (w:World) (hne:a≠g) (hC:C.size=13) (hC1:C.all (·.oneCell')=true)
 (ha:Blk w a 28 #[.slice A n c]) (hg:Blk w g 62 #[.int .i64 0,.int .i64 0,.int .i64 0,.string ⟨#[]⟩,.string ⟨#[]⟩,.bool false,.int .i64 0,.int .i64 0,.int .i64 0,.int .i64 0,.int .i64 0,.int .i64 0,.int .i64 0])
 (HR:Hid (Calls Tryz.prog 140 #[.slice A n c] w fun e w'=>e=.returned (.agg C)∧Below w.heap.size w w')) :
 Calls Tryz.prog 139 #[.pointer (some ⟨a,0,none⟩),.pointer (some ⟨g,0,none⟩)] w fun e w'=>e=.returned (.tuple #[])∧Blk w' g 62 C∧But g w w':=by
 have c0:=ha.cell_ (i:=0) rfl;have HG:=hid hg;have Hi:=hid (show (Tryz.prog.info? 62).map (·.size)=some C.size by rw [hC];exact infoEra);have HC:=hid (And.intro hC hC1);clear hC hC1 hg ha
 go_enter Tryz.func139,Tryz.ntmps139;go_wp2_with fail
 refine HR.out.mono ?_;rintro e w1 ⟨rfl,hb1⟩;have HB1:=hid (And.intro (HG.out.below hb1 HG.out.lt) hb1);clear hb1 c0;go_wp2_with (refine wpList_store_mid rfl 62 (.tmp 1) (.tmp 3) rfl g 0 C rfl rfl (HB1.out.1.there (by rw [HC.out.1];decide)) Hi.out HC.out.2 ?_)
 go_end0
 refine ⟨rfl,HB1.out.1.setAll C (by rw [HC.out.1];rfl),?_⟩
 have key:∀(vs:List Value) (o:Nat) (W:World),But g w W→But g w (W.setCells g o vs):=by
  intro vs
  induction vs with
  | nil=>intro o W h;exact h
  | cons v vs ih=>intro o W h;exact ih (o+1) _ (h.set o v)
 exact key _ _ _ (But.of HB1.out.2)
theorem parse1_no (A:Option Addr) (n c a g:Nat) (x:Int) (w:World) (ha:Blk w a 28 #[.slice A n c])
 (HR:Hid (Calls Tryz.prog 140 #[.slice A n c] w fun e w'=>e=Fails x∧Below w.heap.size w w')) :
 Calls Tryz.prog 139 #[.pointer (some ⟨a,0,none⟩),.pointer (some ⟨g,0,none⟩)] w fun e w'=>e=Fails x∧Below w.heap.size w w':=by
 have c0:=ha.cell_ (i:=0) rfl;clear ha
 go_enter Tryz.func139,Tryz.ntmps139;go_wp2_with fail
 refine HR.out.mono ?_;rintro e w1 ⟨rfl,hb1⟩;exact ⟨rfl,rfl,hb1⟩
theorem eparse_ok (A:Option Addr) (n c:Nat) (C:Array Value) (w:World) (hC:C.size=13) (hC1:C.all (·.oneCell')=true)
 (HR:Hid (∀W,Below w.heap.size w W→Calls Tryz.prog 140 #[.slice A n c] W fun e w'=>e=.returned (.agg C)∧Below W.heap.size W w')) :
 Calls Tryz.prog 115 #[.slice A n c] w fun e w'=>e=.returned (.tuple #[.agg C,.int .i64 0])∧Below w.heap.size w w':=by
 have Hi:=hid (show (Tryz.prog.info? 62).map (·.size)=some C.size by rw [hC];exact infoEra);have HC:=hid (And.intro hC hC1)
 have HX:=hid (show Calls Tryz.prog 38 #[.func (.func 139) #[] #[.pointer (some ⟨w.heap.size,0,none⟩),.pointer (some ⟨w.heap.size+1,0,none⟩)]] ((w.alloc (.cells #[.slice A n c] 28)).alloc (.cells #[.int .i64 0,.int .i64 0,.int .i64 0,.string ⟨#[]⟩,.string ⟨#[]⟩,.bool false,.int .i64 0,.int .i64 0,.int .i64 0,.int .i64 0,.int .i64 0,.int .i64 0,.int .i64 0] 62)) fun e w'=>e=.returned (.int .i64 0)∧Blk w' (w.heap.size+1) 62 C∧Below w.heap.size w w' from by
  refine (caughtR_ok _ _ _ (fun w'=>Blk w' (w.heap.size+1) 62 C∧Below w.heap.size w w') (hid ?_)).mono ?_
  ·have b0:Below w.heap.size w (((w.alloc (.cells #[.slice A n c] 28)).alloc (.cells #[.int .i64 0,.int .i64 0,.int .i64 0,.string ⟨#[]⟩,.string ⟨#[]⟩,.bool false,.int .i64 0,.int .i64 0,.int .i64 0,.int .i64 0,.int .i64 0,.int .i64 0,.int .i64 0] 62)).alloc (.cells #[.int .i64 0] 38)):=by go_grown
   refine (parse1_ok A n c w.heap.size (w.heap.size+1) C _ (by omega) hC hC1 (((Blk.new' _ _ _ rfl).alloc _).alloc _) ((Blk.new' _ _ _ (by simp)).alloc _) (hid (HR.out _ b0))).mono ?_;rintro e w1 ⟨he,hB,hb⟩;refine ⟨he,?_,hB,hb.below b0 (by omega) (by simp<;>omega)⟩;exact (Blk.new' _ _ _ rfl).but hb (by simp)
  ·rintro e w1 ⟨he,w2,⟨hB,hb⟩,rfl⟩
   exact ⟨he,hB.far (by simp) _,hb.setCell (by simp<;>omega) _⟩)
 clear HR hC hC1;have hmf:∀(fn:Fn) (first cap:Array Value) (w:World),(Instr.makeFunc fn first cap).run Tryz.prog w=.ok (.func fn first cap) w:=fun _ _ _ _=>rfl
 go_enter Tryz.func115,Tryz.ntmps115;go_wp2_with fail
 refine HX.out.mono ?_;rintro e w1 ⟨rfl,hB,hb⟩;have HB:=hid (And.intro hB hb);clear hB hb HX hmf
 go_wp2_with (first
  | (refine wpList_load_row rfl 62 (.tmp 2) rfl (w.heap.size+1) rfl 62 C (0,0) _ HB.out.1 Tryz.underlying62 rfl Hi.out ?_)
  | (refine wpList_store_mid rfl 62 (.tmp 2) (.tmp 10) rfl (w.heap.size+1) 0 C rfl rfl (HB.out.1.there (Nat.le_refl _)) Hi.out HC.out.2 ?_))
 exact bodyPost_ret (results_cell_tmp rfl _ _ (w.heap.size+1) 62 C _ _ rfl rfl (HB.out.1.setAll C rfl) Tryz.underlying62 rfl Hi.out) rfl ⟨rfl,below_sets (by omega) _ _ _ HB.out.2⟩
theorem eparse_no (A:Option Addr) (n c:Nat) (x:Int) (w:World) (hx:x≠0)
 (HR:Hid (∀W,Below w.heap.size w W→Calls Tryz.prog 140 #[.slice A n c] W fun e w'=>e=Fails x∧Below W.heap.size W w')) :
 Calls Tryz.prog 115 #[.slice A n c] w fun e w'=>e=.returned (.tuple #[.agg #[.int .i64 0,.int .i64 0,.int .i64 0,.string ⟨#[]⟩,.string ⟨#[]⟩,.bool false,.int .i64 0,.int .i64 0,.int .i64 0,.int .i64 0,.int .i64 0,.int .i64 0,.int .i64 0],.int .i64 x])∧Below w.heap.size w w':=by
 have HX:=hid (show Calls Tryz.prog 38 #[.func (.func 139) #[] #[.pointer (some ⟨w.heap.size,0,none⟩),.pointer (some ⟨w.heap.size+1,0,none⟩)]] ((w.alloc (.cells #[.slice A n c] 28)).alloc (.cells #[.int .i64 0,.int .i64 0,.int .i64 0,.string ⟨#[]⟩,.string ⟨#[]⟩,.bool false,.int .i64 0,.int .i64 0,.int .i64 0,.int .i64 0,.int .i64 0,.int .i64 0,.int .i64 0] 62)) fun e w'=>e=.returned (.int .i64 x)∧Blk w' (w.heap.size+1) 62 #[.int .i64 0,.int .i64 0,.int .i64 0,.string ⟨#[]⟩,.string ⟨#[]⟩,.bool false,.int .i64 0,.int .i64 0,.int .i64 0,.int .i64 0,.int .i64 0,.int .i64 0,.int .i64 0]∧Below w.heap.size w w' from by
  refine (caughtR_no _ _ x _ (fun w'=>Blk w' (w.heap.size+1) 62 #[.int .i64 0,.int .i64 0,.int .i64 0,.string ⟨#[]⟩,.string ⟨#[]⟩,.bool false,.int .i64 0,.int .i64 0,.int .i64 0,.int .i64 0,.int .i64 0,.int .i64 0,.int .i64 0]∧Below w.heap.size w w') (hid ?_)).mono ?_
  ·have b0:Below w.heap.size w (((w.alloc (.cells #[.slice A n c] 28)).alloc (.cells #[.int .i64 0,.int .i64 0,.int .i64 0,.string ⟨#[]⟩,.string ⟨#[]⟩,.bool false,.int .i64 0,.int .i64 0,.int .i64 0,.int .i64 0,.int .i64 0,.int .i64 0,.int .i64 0] 62)).alloc (.cells #[.int .i64 0] 38)):=by go_grown
   refine (parse1_no A n c w.heap.size (w.heap.size+1) x _ (((Blk.new' _ _ _ rfl).alloc _).alloc _) (hid (HR.out _ b0))).mono ?_;rintro e w1 ⟨he,hb⟩;exact ⟨he,(Blk.new' _ _ _ rfl).below hb (by simp),((Blk.new' _ _ _ (by simp)).alloc _).below hb (by simp<;>omega),b0.trans (hb.mono b0.size)⟩
  ·rintro e w1 ⟨he,w2,⟨hB,hb⟩,rfl⟩
   exact ⟨he,(hB.far (by simp) _).alloc _,rbelow_alloc (hb.setCell (by simp<;>omega) _) _⟩)
 have hx2:(x != 0)=true:=bne_iff_ne.2 hx;clear HR hx;have hmf:∀(fn:Fn) (first cap:Array Value) (w:World),(Instr.makeFunc fn first cap).run Tryz.prog w=.ok (.func fn first cap) w:=fun _ _ _ _=>rfl
 go_enter Tryz.func115,Tryz.ntmps115;go_wp2_with fail
 refine HX.out.mono ?_;rintro e w1 ⟨rfl,hB,hb⟩;have HB:=hid (And.intro hB hb);clear hB hb HX hmf;have q0:=HB.out.1.cell_ (i:=0) rfl;have f0:=HB.out.1.frozen 0;have q1:=HB.out.1.cell_ (i:=1) rfl;have f1:=HB.out.1.frozen 1;have q2:=HB.out.1.cell_ (i:=2) rfl;have f2:=HB.out.1.frozen 2;have q3:=HB.out.1.cell_ (i:=3) rfl;have f3:=HB.out.1.frozen 3;have q4:=HB.out.1.cell_ (i:=4) rfl;have f4:=HB.out.1.frozen 4;have q5:=HB.out.1.cell_ (i:=5) rfl;have f5:=HB.out.1.frozen 5;have q6:=HB.out.1.cell_ (i:=6) rfl;have f6:=HB.out.1.frozen 6;have q7:=HB.out.1.cell_ (i:=7) rfl;have f7:=HB.out.1.frozen 7;have q8:=HB.out.1.cell_ (i:=8) rfl;have f8:=HB.out.1.frozen 8;have q9:=HB.out.1.cell_ (i:=9) rfl;have f9:=HB.out.1.frozen 9;have q10:=HB.out.1.cell_ (i:=10) rfl;have f10:=HB.out.1.frozen 10;have q11:=HB.out.1.cell_ (i:=11) rfl;have f11:=HB.out.1.frozen 11;have q12:=HB.out.1.cell_ (i:=12) rfl;have f12:=HB.out.1.frozen 12;have hlt:=HB.out.1.lt;go_wp2_with fail
 exact bodyPost_ret (results_cell_tmp rfl _ _ (w.heap.size+1) 62 #[.int .i64 0,.int .i64 0,.int .i64 0,.string ⟨#[]⟩,.string ⟨#[]⟩,.bool false,.int .i64 0,.int .i64 0,.int .i64 0,.int .i64 0,.int .i64 0,.int .i64 0,.int .i64 0] _ _ rfl rfl (HB.out.1.setAll #[.int .i64 0,.int .i64 0,.int .i64 0,.string ⟨#[]⟩,.string ⟨#[]⟩,.bool false,.int .i64 0,.int .i64 0,.int .i64 0,.int .i64 0,.int .i64 0,.int .i64 0,.int .i64 0] rfl) Tryz.underlying62 rfl infoEra) rfl ⟨rfl,below_sets (by omega) (#[.int .i64 0,.int .i64 0,.int .i64 0,.string ⟨#[]⟩,.string ⟨#[]⟩,.bool false,.int .i64 0,.int .i64 0,.int .i64 0,.int .i64 0,.int .i64 0,.int .i64 0,.int .i64 0]:Array Value).toList 0 _ HB.out.2⟩
theorem eparse_any (A:Option Addr) (n c:Nat) (ls:List (List UInt8)) (w:World) (hT:ETabs w) (hr:StrArg w A ls) (hn:ls.length=n) (hl:∀l ∈ ls,l.length≤1048576) (hm:n≤1000000) :
 Calls Tryz.prog 115 #[.slice A n c] w fun e w'=>e=.returned (.tuple #[.agg (eraR ls).1.cells,.int .i64 (eraR ls).2])∧Below w.heap.size w w':=by
 by_cases h:(eraR ls).2=0
 ·rw [h]
  refine eparse_ok A n c _ w (era_size _) (era_one _) (hid fun W hW=>?_);have:=eread_any A n c ls W (hT.below hW) (hr.below hW) hn hl hm;rwa [h] at this
 ·rw [era_none h]
  refine eparse_no A n c _ w h (hid fun W hW=>?_);have:=eread_any A n c ls W (hT.below hW) (hr.below hW) hn hl hm;rwa [orFail_no _ h] at this
def MaxL (w:World):Prop:=∃m,w.cell? ⟨5,0,none⟩=some (.int .i64 m)
theorem MaxL.below {w w':World} (h:MaxL w) (hb:Below w.heap.size w w'):MaxL w':=by
 obtain ⟨m,hm⟩:=h;exact ⟨m,(hb.cell (block_lt_of_cell hm)).trans hm⟩
theorem splitK_len (sep:List UInt8) (l:List UInt8):∀k,∀l:List UInt8,∀a ∈ Lib.splitK sep 0 k l,a.length≤l.length
 | 0,l,a,ha=>by
  unfold Lib.splitK at ha
  simp at ha
  subst ha;exact Nat.le_refl _
 | k+1,l,a,ha=>by
  unfold Lib.splitK at ha
  split at ha
  ·simp at ha;subst ha;exact Nat.le_refl _
  ·rename_i i h
   simp only [List.mem_cons] at ha
   rcases ha with rfl|ha
   ·simp;omega
   ·have:=splitK_len sep l k _ a ha
    simp only [List.length_drop] at this
    omega
end Go.Proofs.YtboagmbmmoomiaaGreatDoor
