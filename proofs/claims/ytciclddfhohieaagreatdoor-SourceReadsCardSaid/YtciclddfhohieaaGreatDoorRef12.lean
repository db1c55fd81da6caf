/-
  The references of layers 8 (the words of lines) and 12 (links and shifts).
-/
import Derived.Test.YtciclddfhohieaaGreatDoorRefZone
import Derived.Test.YtciclddfhohieaaGreatDoorSrcPlain
import Derived.Test.YtciclddfhohieaaGreatDoorPCopies
import Derived.Test.YtciclddfhohieaaGreatDoorEraLine2
set_option linter.unusedVariables false
set_option linter.unusedSimpArgs false
set_option maxRecDepth 100000
set_option maxHeartbeats 4000000
namespace Go.Proofs.YtciclddfhohieaaGreatDoor
open Go.RowKit Go.Shelf
def linesO:Obj:=.cells #[.string ⟨#[114,117,108,101]⟩,.string ⟨#[122,111,110,101]⟩,.string ⟨#[108,105,110,107]⟩,.string ⟨#[115,104,105,102,116]⟩] 9
theorem rlines_any (w:World):Calls Tryz.prog 86 #[] w fun e w'=>e=.returned (.slice (some ⟨w.heap.size,0,none⟩) 4 4)∧w'=w.alloc linesO:=by
 go_enter Tryz.func86,Tryz.ntmps86
 go_wp2
 go_ret
 exact ⟨rfl,rfl⟩
theorem linesO_cell (w:World) (j:Nat) (l:List UInt8) (hl:lineL[j]? = some l):(w.alloc linesO).cell? ⟨w.heap.size,j,none⟩=some (.string ⟨l.toArray⟩):=litrow_cell w _ lineL j l hl
theorem rline_any (s:ByteArray) (w:World) (hs:s.size≤1048576) :
 Calls Tryz.prog 59 #[.string s] w fun e w'=>e=.returned (.tuple #[.int .i64 (wordR lineL 1 s.data.toList).1,.int .i64 (wordR lineL 1 s.data.toList).2])∧Below w.heap.size w w':=by
 have HF:=Lib.hid (rfind_any w.heap.size 4 lineL s (w.alloc linesO) (linesO_cell w) (by simp) (by decide) (by decide) hs);have hm:=more_find lineL s.data.toList (by decide);have HW:=Lib.hid hm.1;have hbd:=hm.2;clear hm;generalize wordR lineL 1 s.data.toList=R at *;generalize findRR lineL s.data.toList=F at *;obtain ⟨f1,f2⟩:=F;simp only at HF HW hbd;have HM:=Lib.hid (fun w=>rmore_any f1 f2 w hbd)
 go_enter Tryz.func59,Tryz.ntmps59;go_wp2_with fail
 refine (rlines_any w).mono ?_;rintro e w1 ⟨rfl,rfl⟩;go_wp2_with fail
 refine HF.out.mono ?_;rintro e w1 ⟨rfl,hb⟩;have HB:=Lib.hid (((Below.refl _ w).alloc (Nat.le_refl _) linesO).trans (hb.mono (by simp)));clear hb;go_wp2_with fail
 refine (HM.out _).mono ?_;rintro e w1 ⟨rfl,rfl⟩;go_wp2_with fail
 go_ret2
 exact ⟨by rw [←HW.out];rfl,HB.out⟩
theorem r12link_any (A:Option Addr) (n c:Nat) (ls:List (List UInt8)) (w:World) (hr:StrArg w A ls) (hn:ls.length=n) (hl:∀l ∈ ls,l.length≤1048576) (hm:n≤1000000) :
 Calls Tryz.prog 90 #[.slice A n c] w fun e w'=>e=.returned (.tuple #[.agg (linkR ls).1.cells,.int .i64 (linkR ls).2])∧Below w.heap.size w w':=by
 have HB1:=Lib.hid (show Blk (w.alloc (.cells #[.string ⟨#[]⟩,.string ⟨#[]⟩] 65)) w.heap.size 65 #[.string ⟨#[]⟩,.string ⟨#[]⟩]∧Below w.heap.size w (w.alloc (.cells #[.string ⟨#[]⟩,.string ⟨#[]⟩] 65)) from ⟨Blk.new' _ _ _ rfl,(Below.refl _ _).alloc (Nat.le_refl _) _⟩)
 by_cases h2:n=2
 ·subst h2
  obtain ⟨a,b,rfl⟩:∃a b,ls=[a,b]:=by
   match ls,hn with
   | [a,b],_=>exact ⟨a,b,rfl⟩
  obtain ⟨g,o,rfl,hrow⟩:=hr.row (by simp);have HR0:=Lib.hid (hrow.below HB1.out.2);have HZ1:=Lib.hid (fun W=>r7zone_any ⟨a.toArray⟩ W (by simpa [ByteArray.size] using hl a (by simp)));have HZ2:=Lib.hid (fun W=>r7zone_any ⟨b.toArray⟩ W (by simpa [ByteArray.size] using hl b (by simp)));rw [show (⟨a.toArray⟩:ByteArray).data.toList=a from by simp] at HZ1;rw [show (⟨b.toArray⟩:ByteArray).data.toList=b from by simp] at HZ2;have hq:((2:Int) != 2)=false:=by decide
  clear hrow hr hl hn hm;have c0:=HR0.out.at_ 0 a rfl;have c1:=HR0.out.at_ 1 b rfl;rw [Nat.add_zero] at c0
  cases hza:zoneB a with
  | false =>
   have HE:=Lib.hid (show linkR [a,b]=(⟨[],[]⟩,9) from by unfold linkR;rw [if_neg (by simp),if_pos (by simp [hza])]);rw [hza] at HZ1;clear hza HZ2;have r0:=HB1.out.1.cell_ (i:=0) (u:=.string ⟨#[]⟩) rfl;have r1:=HB1.out.1.cell_ (i:=1) (u:=.string ⟨#[]⟩) rfl;have f0:=HB1.out.1.frozen 0;have f1:=HB1.out.1.frozen 1
   go_enter Tryz.func90,Tryz.ntmps90
   go_upto_region 1 with fail
   generalize (w.alloc (.cells #[.string ⟨#[]⟩,.string ⟨#[]⟩] 65))=w0 at *;go_wp2_with fail
   refine (HZ1.out _).mono ?_;rintro e w1 ⟨rfl,rfl⟩;go_wp2_with fail
   refine bodyPost_ret (v:=.tuple #[.agg #[.string ⟨#[]⟩,.string ⟨#[]⟩],.int .i64 9]) (by simp [results,Tryz.results90,go_sem,r0,r1,f0,f1]) rfl ⟨by rw [HE.out];rfl,by have hbx:=HB1.out.2;go_grown⟩
  | true =>
   rw [hza] at HZ1
   cases hzb:zoneB b with
   | false =>
    have HE:=Lib.hid (show linkR [a,b]=(⟨[],[]⟩,9) from by unfold linkR;rw [if_neg (by simp),if_pos (by simp [hzb])]);rw [hzb] at HZ2;clear hzb hza;have r0:=HB1.out.1.cell_ (i:=0) (u:=.string ⟨#[]⟩) rfl;have r1:=HB1.out.1.cell_ (i:=1) (u:=.string ⟨#[]⟩) rfl;have f0:=HB1.out.1.frozen 0;have f1:=HB1.out.1.frozen 1
    go_enter Tryz.func90,Tryz.ntmps90
    go_upto_region 1 with fail
    generalize (w.alloc (.cells #[.string ⟨#[]⟩,.string ⟨#[]⟩] 65))=w0 at *;go_wp2_with fail
    refine (HZ1.out _).mono ?_;rintro e w1 ⟨rfl,rfl⟩;go_wp2_with fail
    refine (HZ2.out _).mono ?_;rintro e w1 ⟨rfl,rfl⟩;go_wp2_with fail
    refine bodyPost_ret (v:=.tuple #[.agg #[.string ⟨#[]⟩,.string ⟨#[]⟩],.int .i64 9]) (by simp [results,Tryz.results90,go_sem,r0,r1,f0,f1]) rfl ⟨by rw [HE.out];rfl,by have hbx:=HB1.out.2;go_grown⟩
   | true =>
    have HE:=Lib.hid (show linkR [a,b]=(⟨a,b⟩,0) from by unfold linkR;rw [if_neg (by simp),if_neg (by simp [hza,hzb])];rfl);rw [hzb] at HZ2;clear hzb hza
    go_enter Tryz.func90,Tryz.ntmps90
    go_upto_region 1 with fail
    generalize (w.alloc (.cells #[.string ⟨#[]⟩,.string ⟨#[]⟩] 65))=w0 at *;go_wp2_with fail
    refine (HZ1.out _).mono ?_;rintro e w1 ⟨rfl,rfl⟩;go_wp2_with fail
    refine (HZ2.out _).mono ?_;rintro e w1 ⟨rfl,rfl⟩;clear c0 c1;go_wp2_with fail
    refine wp_region_vals 7 (fun W=>Blk W w.heap.size 65 #[.string ⟨#[]⟩,.string ⟨#[]⟩]∧Below w.heap.size w W∧StrRow W g o [a,b]) (by kernel_rfl) (by kernel_rfl) rfl (⟨HB1.out.1,HB1.out.2.drew,HR0.out.below (Below.refl _ _).drew⟩) (fun W W2 h hb=>⟨h.1.below hb h.1.lt,h.2.1.trans (hb.mono h.2.1.size),h.2.2.below hb⟩) ?_
    iterate 7
     apply exV_ex rfl ?_ (fun K hK=>?_)
     any_goals
      intro W hC;have c0:=hC.2.2.at_ 0 a rfl;have c1:=hC.2.2.at_ 1 b rfl;rw [Nat.add_zero] at c0;go_simp
      all_goals first|exact ⟨Below.refl _ _,rfl⟩|exact Below.refl _ _
     any_goals
      revert hK
      intro hK;go_simp;refine hK _ ?_;clear hK K
    refine exV_end fun W hC=>?_
    clear HB1;have HB2:=Lib.hid hC;have r0:=hC.1.cell_ (i:=0) (u:=.string ⟨#[]⟩) rfl;have r1:=hC.1.cell_ (i:=1) (u:=.string ⟨#[]⟩) rfl;have f0:=hC.1.frozen 0;have f1:=hC.1.frozen 1;clear hC;go_wp2_with fail
    refine bodyPost_ret (v:=.tuple #[.agg #[.string ⟨a.toArray⟩,.string ⟨b.toArray⟩],.int .i64 0]) (by simp [results,Tryz.results90,go_sem,r0,r1,f0,f1]) rfl ⟨by rw [HE.out];rfl,(HB2.out.2.1.setCell (Nat.le_refl _) _).setCell (Nat.le_refl _) _⟩
 ·have HE:=Lib.hid (show linkR ls=(⟨[],[]⟩,5) from by unfold linkR;rw [if_pos (by omega)])
  have hq:((n:Int) != 2)=true:=by simp;omega
  clear hr hl hn;have r0:=HB1.out.1.cell_ (i:=0) (u:=.string ⟨#[]⟩) rfl;have r1:=HB1.out.1.cell_ (i:=1) (u:=.string ⟨#[]⟩) rfl;have f0:=HB1.out.1.frozen 0;have f1:=HB1.out.1.frozen 1
  go_enter Tryz.func90,Tryz.ntmps90
  go_upto_region 1 with fail
  generalize (w.alloc (.cells #[.string ⟨#[]⟩,.string ⟨#[]⟩] 65))=w0 at *;clear h2;go_wp2_with fail
  refine bodyPost_ret (v:=.tuple #[.agg #[.string ⟨#[]⟩,.string ⟨#[]⟩],.int .i64 5]) (by simp [results,Tryz.results90,go_sem,r0,r1,f0,f1]) rfl ⟨by rw [HE.out];rfl,by have hbx:=HB1.out.2;go_grown⟩
theorem r12shiftp_any (A:Option Addr) (n c:Nat) (ls:List (List UInt8)) (w:World) (hr:StrArg w A ls) (hn:ls.length=n) (hl:∀l ∈ ls,l.length≤1048576) (hm:n≤1000000) :
 Calls Tryz.prog 91 #[.slice A n c] w fun e w'=>e=.returned (.tuple #[.string ⟨(shiftR ls).1.toArray⟩,.int .i64 (shiftR ls).2])∧Below w.heap.size w w':=by
 by_cases h2:n=1
 ·subst h2
  obtain ⟨a,rfl⟩:∃a,ls=[a]:=by
   match ls,hn with
   | [a],_=>exact ⟨a,rfl⟩
  obtain ⟨g,o,rfl,hrow⟩:=hr.row (by simp);have HZ:=Lib.hid (fun W=>r7Set_any ⟨a.toArray⟩ W (by simpa [ByteArray.size] using hl a (by simp)));rw [show (⟨a.toArray⟩:ByteArray).data.toList=a from by simp] at HZ;have hq:((1:Int) != 1)=false:=by decide
  have c0:=hrow.at_ 0 a rfl;rw [Nat.add_zero] at c0;clear hrow hr hl hn hm
  cases hz:setB a with
  | false =>
   have HE:=Lib.hid (show shiftR [a]=([],9) from by unfold shiftR;rw [if_neg (by simp),if_pos (by simp [hz])]);rw [hz] at HZ;clear hz
   go_enter Tryz.func91,Tryz.ntmps91;go_wp2_with fail
   refine (HZ.out _).mono ?_;rintro e w1 ⟨rfl,rfl⟩;go_wp2_with fail
   go_ret2
   exact ⟨by rw [HE.out];rfl,Below.refl _ _⟩
  | true =>
   have HE:=Lib.hid (show shiftR [a]=(a,0) from by unfold shiftR;rw [if_neg (by simp),if_neg (by simp [hz])];rfl);rw [hz] at HZ;clear hz
   go_enter Tryz.func91,Tryz.ntmps91;go_wp2_with fail
   refine (HZ.out _).mono ?_;rintro e w1 ⟨rfl,rfl⟩;go_wp2_with fail
   go_ret2
   exact ⟨by rw [HE.out];rfl,Below.refl _ _⟩
 ·have HE:=Lib.hid (show shiftR ls=([],5) from by unfold shiftR;rw [if_pos (by omega)])
  have hq:((n:Int) != 1)=true:=by simp;omega
  clear hr hl hn h2
  go_enter Tryz.func91,Tryz.ntmps91;go_wp2_with fail
  go_ret2
  exact ⟨by rw [HE.out];rfl,Below.refl _ _⟩
end Go.Proofs.YtciclddfhohieaaGreatDoor
