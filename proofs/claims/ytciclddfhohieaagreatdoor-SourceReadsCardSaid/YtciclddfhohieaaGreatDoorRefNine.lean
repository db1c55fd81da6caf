/-
  The references of layer 8: small, find, weeks, Week, short, WeekText return what the program's functions return.
  The references of layer 9: number, last, sign, digits, Check, Parse, Print return what the program's functions return.
  The references of layers 9 and 2: digits, Check, Parse, Print return what the program's functions return.
  The references of layer 9: Parse and Print; DayspecReads: the walk.
  The reference of layer 4, printing: Decimal, Two, Print return what the program's functions return.
  The reference of layer 4, reading: digit, pair, form, Parse return what the program's functions return.
  The references of layer 6: Check, base, Parse, Print return what the program's functions return.
-/
import Derived.Test.YtciclddfhohieaaGreatDoorDayAll
import Derived.Deep.QuietTactic
import Derived.BigQuiet
import Derived.Handy
import Derived.Deep.RegionHeld3
import Derived.Outline
import Derived.Test.YtciclddfhohieaaGreatDoorOffAll
set_option linter.unusedVariables false
set_option maxRecDepth 100000
set_option maxHeartbeats 4000000
namespace Go.Proofs.YtciclddfhohieaaGreatDoor
open Go.RowKit
theorem Tryz.info_u8:(Tryz.prog.info? 5).map (fun i=>(i.zero,i.size,i.bytes))=some (some (.int .u8 0),1,1):=by kernel_rfl
def u8s (l:List UInt8):List Value:=l.map fun c=>Value.int .u8 (c.toNat:Int)
theorem bytesIn_of {w:World} {B n:Nat} {A:Option Addr} {l:List UInt8} (h:Reads w B 1 A n (u8s l)):Lib.BytesIn w A n (l.map fun c=>(c.toNat:Int)):=fun hn=>by
 obtain ⟨ad,rfl,_,hc⟩:=h.2 hn;have hl:l.length=n:=by have:=h.1;simpa [u8s] using this
 exact Lib.BytesIn.of_cells (fun i hi=>hc i _ (by simp [u8s,List.getElem?_eq_getElem (show i<l.length by omega)])) hn
theorem str_of_u8s (l:List UInt8):strOfNums (l.map fun c=>(c.toNat:Int))=⟨l.toArray⟩:=by
 have e:(l.map ((fun n:Int=>UInt8.ofNat n.toNat) ∘ fun c:UInt8=>(c.toNat:Int)))=l:=by
  rw [show ((fun n:Int=>UInt8.ofNat n.toNat) ∘ fun c:UInt8=>(c.toNat:Int))=id from funext fun c=>by simp]
  simp
 simp [strOfNums,e]
theorem small_snoc (s:ByteArray) (k:Nat) (h:k<s.size):u8s ((smallL s.data.toList).take (k+1))=u8s ((smallL s.data.toList).take k)++[.int .u8 (lowZ ((s[k]'h).toNat:Int))]:=by
 have hl:k<(smallL s.data.toList).length:=by simp [smallL,h]
 rw [List.take_succ_eq_append_getElem hl];simp only [u8s,List.map_append,List.map_cons,List.map_nil]
 congr 3
 have e:(smallL s.data.toList)[k]=lowA (s[k]'h):=by simp [smallL];rfl
 rw [e,←lowZ_A];have:=lowZ_bd (c:=((s[k]'h).toNat:Int)) ⟨by omega,by have:=(s[k]'h).toNat_lt;omega⟩
 simp
 omega
theorem rsmall_any (s:ByteArray) (w:World) (hs:s.size≤1048576) :
 Calls Tryz.prog 114 #[.string s] w fun e w'=>e=.returned (.string ⟨(smallL s.data.toList).toArray⟩)∧Below w.heap.size w w':=by
 obtain ⟨i0,hi,hz0,hz1,hz2⟩:=info_parts Tryz.info_u8
 go_enter Tryz.func114,Tryz.ntmps114;go_wp2_with fail
 go_loopw [3,4] (fun v i wr=>∃k:Nat,k≤s.size∧i=.int .i64 k∧wr.ownsRow w.heap.size 5 1 v k (u8s ((smallL s.data.toList).take k))∧Below w.heap.size w wr) (fun _ i _=>s.size-(intOf i).toNat)
 case atStart=>exact ⟨0,Nat.zero_le _,rfl,World.ownsRow_nil _ _ _ _,Below.refl _ _⟩
 case round =>
  obtain ⟨k,hk,rfl,hown,hb⟩:=hrel
  by_cases hlt:k<s.size
  ·have HS:=Lib.hid (small_snoc s k hlt)
   obtain ⟨c,hc⟩:∃c:Nat,c=(s[k]'hlt).toNat:=⟨_,rfl⟩;have g0:∀h,(s[k]'h).toNat=c:=fun _=>hc.symm
   have hc256:c<256:=by rw [hc];exact (s[k]'hlt).toNat_lt
   rw [←hc] at HS;clear hc;have hd:decide (k<s.size)=true:=by simp [hlt]
   by_cases h65:65≤c∧c≤90
   ·have HZ:=Lib.hid (show lowZ (c:Int)=(c:Int)+97-65 by rw [lowZ,if_pos (by omega)];omega)
    have e1:65≤(c:Int):=by omega
    have e2:(c:Int)≤90:=by omega
    go_wp2_with (at_builtin;refine wpList_append_own _ rfl (.tmp 24) (.tmp 26) 98 rfl w.heap.size 5 i0 (.int .u8 0) 1 1 Tryz.underlying98 hi hz0 hz1 hz2 rfl (by decide) _ _ _ rfl (hown.alloc _) ⟨wr.heap.size,0,none⟩ 1 1 [.int .u8 ((c:Int)+97-65)] ?c0 rfl ?c1 ?c2 ?c3 ?c4 ?c5 ?_)
    case c0=>rfl
    case c1=>exact cell_one_new _ _ _
    case c2=>intro u hu;simp at hu;subst hu;rfl
    case c3=>unfold maxLen;omega
    case c4=>omega
    case c5=>have:=hb.size;simp;omega
    intro v' w1 hown' hgrow _;have hb1:=below_push hb hb.size hown hgrow;have HO:=Lib.hid (show w1.ownsRow w.heap.size 5 1 v' (k+1) (u8s ((smallL s.data.toList).take (k+1))) by rw [HS.out,HZ.out];exact hown');clear hown' hgrow hown hb
    go_wp2
    go_roundw
    case rel=>exact ⟨k+1,by omega,by go_num,HO.out,hb1⟩
    case measure=>simp [intOf];omega
   ·have HZ:=Lib.hid (show lowZ (c:Int)=(c:Int) by rw [lowZ,if_neg (by omega)])
    have e1:(65≤(c:Int)∧¬(c:Int)≤90)∨¬65≤(c:Int):=by omega
    rcases e1 with ⟨e1,e2⟩|e1
    ·go_wp2_with (at_builtin;refine wpList_append_own _ rfl (.tmp 24) (.tmp 26) 98 rfl w.heap.size 5 i0 (.int .u8 0) 1 1 Tryz.underlying98 hi hz0 hz1 hz2 rfl (by decide) _ _ _ rfl (hown.alloc _) ⟨wr.heap.size,0,none⟩ 1 1 [.int .u8 (c:Int)] rfl rfl (cell_one_new _ _ _) (fun u hu=>by simp at hu;subst hu;rfl) (by unfold maxLen;omega) (by omega) (by have:=hb.size;simp;omega) ?_;intro v' w1 hown' hgrow _;have tok:=hgrow)
     have hb1:=below_push hb hb.size hown hgrow;have HO:=Lib.hid (show w1.ownsRow w.heap.size 5 1 v' (k+1) (u8s ((smallL s.data.toList).take (k+1))) by rw [HS.out,HZ.out];exact hown');clear hown' hgrow hown hb
     go_wp2
     go_roundw
     case rel=>exact ⟨k+1,by omega,by go_num,HO.out,hb1⟩
     case measure=>simp [intOf];omega
    ·go_wp2_with (at_builtin;refine wpList_append_own _ rfl (.tmp 24) (.tmp 26) 98 rfl w.heap.size 5 i0 (.int .u8 0) 1 1 Tryz.underlying98 hi hz0 hz1 hz2 rfl (by decide) _ _ _ rfl (hown.alloc _) ⟨wr.heap.size,0,none⟩ 1 1 [.int .u8 (c:Int)] rfl rfl (cell_one_new _ _ _) (fun u hu=>by simp at hu;subst hu;rfl) (by unfold maxLen;omega) (by omega) (by have:=hb.size;simp;omega) ?_;intro v' w1 hown' hgrow _;have tok:=hgrow)
     have hb1:=below_push hb hb.size hown hgrow;have HO:=Lib.hid (show w1.ownsRow w.heap.size 5 1 v' (k+1) (u8s ((smallL s.data.toList).take (k+1))) by rw [HS.out,HZ.out];exact hown');clear hown' hgrow hown hb
     go_wp2
     go_roundw
     case rel=>exact ⟨k+1,by omega,by go_num,HO.out,hb1⟩
     case measure=>simp [intOf];omega
  ·obtain rfl:k=s.size:=by omega
   have hd:decide (s.size<s.size)=false:=by simp
   obtain ⟨A,cap,rfl,_,hR⟩:=own_slice hown;rw [List.take_of_length_le (by simp [smallL])] at hR;have hcv:=Lib.BytesIn.convert (P:=Tryz.prog) (bytesIn_of hR) (by simp [smallL]) cap 98 5 9 Tryz.underlying98 Tryz.underlying5 Tryz.underlying9;rw [str_of_u8s] at hcv;clear hR hown;go_wp2_with fail
   go_ret
   exact ⟨rfl,hb⟩
def foundI (ps:List (Nat × List UInt8)):Int:=(ps.getLast?.map fun p=>(p.1:Int)).getD (-1)
def findRR (ws:List (List UInt8)) (s:List UInt8):Int × Int:=if (wordF ws s).2=true then (((wordF ws s).1:Int),0) else (0,8)
theorem rfind_any (b cap:Nat) (ws:List (List UInt8)) (s:ByteArray) (w:World) (hc:∀j l,ws[j]? = some l→w.cell? ⟨b,j,none⟩=some (.string ⟨l.toArray⟩)) (hb:b<w.heap.size) (hlen:ws.length≤100) (hne:∀l ∈ ws,l≠[]∧l.length≤100) (hs:s.size≤1048576) :
 Calls Tryz.prog 85 #[.slice (some ⟨b,0,none⟩) ws.length cap,.string s] w fun e w'=>e=.returned (.tuple #[.int .i64 (findRR ws s.data.toList).1,.int .i64 (findRR ws s.data.toList).2])∧Below w.heap.size w w':=by
 have HF:=Lib.hid (show findRR ws s.data.toList=if (findP (begTo (smallL s.data.toList) ws ws.length) (smallL s.data.toList)).2=true then (((findP (begTo (smallL s.data.toList) ws ws.length) (smallL s.data.toList)).1:Int),0) else (0,8) from rfl);have HC:=Lib.hid hc;have HN:=Lib.hid hne;have htl:(smallL s.data.toList).length≤1048576:=by simp [smallL];omega
 clear hc hne
 go_enter Tryz.func85,Tryz.ntmps85;go_wp2_with fail
 refine (rsmall_any s w hs).mono ?_;rintro e w1 ⟨rfl,hb1⟩;have HC1:=Lib.hid (show ∀j l,ws[j]? = some l→w1.cell? ⟨b,j,none⟩=some (.string ⟨l.toArray⟩) from fun j l hl=>(hb1.cell (p:=⟨b,j,none⟩) hb).trans (HC.out j l hl));have HB1:=Lib.hid hb1;clear hb1 HC;generalize smallL s.data.toList=t at *;go_wp2_with fail
 go_loop [6,7,8] (fun f n i=>∃k:Nat,k≤ws.length∧i=.int .i64 k∧f=.int .i64 (foundI (begTo t ws k))∧n=.int .i64 ((begTo t ws k).length:Int)∧∀p ∈ begTo t ws k,p.2≠t) (fun _ _ i=>ws.length-(intOf i).toNat)
 case atStart=>exact ⟨0,Nat.zero_le _,rfl,rfl,rfl,by simp [begTo_zero]⟩
 case round =>
  obtain ⟨k,hk,rfl,rfl,rfl,hq⟩:=hrel;have HQ:=Lib.hid hq;have hbl:=begTo_len t ws k;clear hq
  by_cases hlt:k<ws.length
  ·obtain ⟨l,hl⟩:∃l,ws[k]? = some l:=⟨_,List.getElem?_eq_getElem hlt⟩
   have c0:=HC1.out k l hl;obtain ⟨hl0,hl100⟩:=HN.out l (List.mem_of_getElem? hl);have HL:=Lib.hid hl;have hd:decide (k<ws.length)=true:=by simp [hlt]
   clear hl
   by_cases hlt2:l=t
   ·subst hlt2
    have hh:hits l (ws[k]?.getD [])=true:=by
     rw [HL.out]
     simp [hits,Lib.hasPrefix,hl0]
    have hst:=findP_stop (k:=k+1) hlt (begTo_hit hh) (by rw [HL.out];rfl) HQ.out;have HST:=Lib.hid hst;clear hh hst;go_wp2_with fail
    go_ret2
    exact ⟨by rw [HF.out,HST.out];rfl,HB1.out⟩
   ·have hb2:(l==t)=false:=beq_eq_false_iff_ne.2 hlt2
    cases t with
    | nil =>
     have hh:hits [] (ws[k]?.getD [])=false:=rfl;have HM:=Lib.hid (begTo_miss hh);clear hh;go_wp2_with fail
     go_round
     case rel=>exact ⟨k+1,by omega,by go_num,by rw [HM.out],by rw [HM.out],by rw [HM.out];exact HQ.out⟩
     case measure=>simp [intOf];omega
    | cons x xs =>
     have htl2:xs.length+1≤1048576:=by simpa using htl
     have hex:((⟨l.toArray⟩:ByteArray).extract 0 (xs.length+1)).toList=l.take (xs.length+1):=by
      rw [ByteArray.toList_eq];simp
     by_cases hh:hits (x::xs) (ws[k]?.getD [])=true
     ·have hp:l.take (xs.length+1)=x::xs:=by
       rw [HL.out] at hh;simp only [hits,Option.getD_some,Bool.and_eq_true] at hh;have:=pre_take (l:=l) (p:=x::xs);rw [hh.2] at this
       simpa using this
      have hlen2:xs.length+1<l.length:=by
       have h1:=congrArg List.length hp
       simp at h1
       apply Classical.byContradiction
       intro hn;exact hlt2 (by rw [←hp,List.take_of_length_le (by omega)])
      have hx:(((⟨l.toArray⟩:ByteArray).extract 0 (xs.length+1)).toList==x::xs)=true:=by rw [hex,hp];simp
      have HM:=Lib.hid (begTo_hit hh);rw [HL.out] at HM;have hd2:decide (xs.length+1<l.length)=true:=by simp [hlen2]
      clear hh hex hp;go_wp2_with fail
      go_round
      case rel =>
       refine ⟨k+1,by omega,by go_num,by rw [HM.out];simp [foundI],by rw [HM.out];simp,?_⟩;rw [HM.out];intro p hp
       rcases List.mem_append.1 hp with h|h
       ·exact HQ.out p h
       ·simp at h;subst h;exact hlt2
      case measure=>simp [intOf];omega
     ·have HM:=Lib.hid (begTo_miss (Bool.eq_false_iff.2 hh))
      by_cases hlen2:xs.length+1<l.length
      ·have hd2:decide (xs.length+1<l.length)=true:=by simp [hlen2]
       have hx:(((⟨l.toArray⟩:ByteArray).extract 0 (xs.length+1)).toList==x::xs)=false:=by
        rw [hex];have:=pre_take (l:=l) (p:=x::xs);rw [show l.take (xs.length+1)=l.take (x::xs).length from rfl,this];rw [HL.out] at hh
        simpa [hits] using hh
       clear hh hex;go_wp2_with fail
       go_round
       case rel=>exact ⟨k+1,by omega,by go_num,by rw [HM.out],by rw [HM.out],by rw [HM.out];exact HQ.out⟩
       case measure=>simp [intOf];omega
      ·have hd2:decide (xs.length+1<l.length)=false:=by simp [hlen2]
       clear hh hex;go_wp2_with fail
       go_round
       case rel=>exact ⟨k+1,by omega,by go_num,by rw [HM.out],by rw [HM.out],by rw [HM.out];exact HQ.out⟩
       case measure=>simp [intOf];omega
  ·have hd:decide (k<ws.length)=false:=by simp [hlt]
   obtain rfl:k=ws.length:=by omega
   have HP:=Lib.hid (findP_none HQ.out)
   by_cases h1:(begTo t ws ws.length).length=1
   ·have h1b:(((begTo t ws ws.length).length:Int) != 1)=false:=by rw [h1];rfl
    go_wp2_with fail
    go_ret2
    refine ⟨?_,HB1.out⟩;rw [HF.out,HP.out];obtain ⟨p,hp⟩:=List.length_eq_one_iff.1 h1;rw [hp]
    rfl
   ·have h1b:(((begTo t ws ws.length).length:Int) != 1)=true:=by rw [bne_iff_ne];omega
    go_wp2_with fail
    go_ret2
    refine ⟨?_,HB1.out⟩;rw [HF.out,HP.out];simp only;rw [if_neg (by simpa using h1)]
    rfl
def weeksO:Obj:=.cells #[.string ⟨#[115,117,110,100,97,121]⟩,.string ⟨#[109,111,110,100,97,121]⟩,.string ⟨#[116,117,101,115,100,97,121]⟩,.string ⟨#[119,101,100,110,101,115,100,97,121]⟩,.string ⟨#[116,104,117,114,115,100,97,121]⟩,.string ⟨#[102,114,105,100,97,121]⟩,.string ⟨#[115,97,116,117,114,100,97,121]⟩] 9
theorem rweeks_any (w:World):Calls Tryz.prog 196 #[] w fun e w'=>e=.returned (.slice (some ⟨w.heap.size,0,none⟩) 7 7)∧w'=w.alloc weeksO:=by
 go_enter Tryz.func196,Tryz.ntmps196
 go_wp2
 go_ret
 exact ⟨rfl,rfl⟩
theorem weeksO_cell (w:World) (j:Nat) (l:List UInt8) (hl:weekL[j]? = some l):(w.alloc weeksO).cell? ⟨w.heap.size,j,none⟩=some (.string ⟨l.toArray⟩):=by
 have b:Blk (w.alloc weeksO) w.heap.size 9 #[.string ⟨#[115,117,110,100,97,121]⟩,.string ⟨#[109,111,110,100,97,121]⟩,.string ⟨#[116,117,101,115,100,97,121]⟩,.string ⟨#[119,101,100,110,101,115,100,97,121]⟩,.string ⟨#[116,104,117,114,115,100,97,121]⟩,.string ⟨#[102,114,105,100,97,121]⟩,.string ⟨#[115,97,116,117,114,100,97,121]⟩]:=Blk.new' w _ _ rfl;have hlt:j<7:=(List.getElem?_eq_some_iff.1 hl).1
 rcases (by omega:j=0∨j=1∨j=2∨j=3∨j=4∨j=5∨j=6) with rfl|rfl|rfl|rfl|rfl|rfl|rfl
 all_goals (cases hl;exact b.cell_ rfl)
theorem rweek_any (s:ByteArray) (w:World) (hs:s.size≤1048576) :
 Calls Tryz.prog 167 #[.string s] w fun e w'=>e=.returned (.tuple #[.int .i64 (weekR s.data.toList).1,.int .i64 (weekR s.data.toList).2])∧Below w.heap.size w w':=by
 have HF:=Lib.hid (rfind_any w.heap.size 7 weekL s (w.alloc weeksO) (weeksO_cell w) (by simp) (by decide) (by decide) hs)
 go_enter Tryz.func167,Tryz.ntmps167;go_wp2_with fail
 refine (rweeks_any w).mono ?_;rintro e w1 ⟨rfl,rfl⟩;go_wp2_with fail
 refine HF.out.mono ?_;rintro e w1 ⟨rfl,hb⟩;have HB:=Lib.hid (((Below.refl _ w).alloc (Nat.le_refl _) weeksO).trans (hb.mono (by simp)));clear hb;go_wp2_with fail
 go_ret2
 exact ⟨rfl,HB.out⟩
theorem rnumber_out (s:ByteArray) (w:World) (hs:s.size<1∨2<s.size) :
 Calls Tryz.prog 168 #[.string s] w fun e w'=>e=.returned (.tuple #[.int .i64 0,.int .i64 5])∧w=w':=by
 rcases hs with hs|hs
 all_goals
  go_enter Tryz.func168,Tryz.ntmps168;go_wp2_with fail
  go_ret2
  exact ⟨rfl,rfl⟩
theorem rnumber_one (a:UInt8) (w:World) :
 Calls Tryz.prog 168 #[.string ⟨#[a]⟩] w fun e w'=>e=.returned (.tuple #[.int .i64 (numR [a]).1,.int .i64 (numR [a]).2])∧w=w':=by
 have g0:∀h,((⟨#[a]⟩:ByteArray)[0]'h).toNat=a.toNat:=fun _=>rfl
 by_cases h0:a.toNat=48
 ·have hb:((a.toNat:Int)==48)=true:=beq_iff_eq.2 (by omega)
  have hN:=Lib.hid (show numR [a]=(0,5) by simp only [numR];rw [if_neg (by omega)]);clear h0
  go_enter Tryz.func168,Tryz.ntmps168;go_wp2_with fail
  go_ret2
  exact ⟨by rw [hN.out];rfl,rfl⟩
 ·have hb:((a.toNat:Int)==48)=false:=beq_eq_false_iff_ne.2 (by omega)
  have h256:=a.toNat_lt
  by_cases k:48≤a.toNat∧a.toNat≤57
  ·have hN:=Lib.hid (show numR [a]=((a.toNat:Int)-48,0) by simp only [numR];rw [if_pos (by omega)])
   have k1:¬((a.toNat:Int)<48):=by omega
   have k2:¬(57<(a.toNat:Int)):=by omega
   clear h0
   go_enter Tryz.func168,Tryz.ntmps168;go_wp2_with fail
   go_rounds 2
   all_goals (go_ret2;exact ⟨by rw [hN.out];rfl,rfl⟩)
  ·have hN:=Lib.hid (show numR [a]=(0,5) by simp only [numR];rw [if_neg (by omega)])
   rcases (by omega:(a.toNat:Int)<48∨(¬(a.toNat:Int)<48∧57<(a.toNat:Int))) with k1|⟨k1,k2⟩
   all_goals
    clear k h0
    go_enter Tryz.func168,Tryz.ntmps168;go_wp2_with fail
    go_rounds 2
    all_goals (go_ret2;exact ⟨by rw [hN.out];rfl,rfl⟩)
theorem rnumber_two (a b:UInt8) (w:World) :
 Calls Tryz.prog 168 #[.string ⟨#[a,b]⟩] w fun e w'=>e=.returned (.tuple #[.int .i64 (numR [a,b]).1,.int .i64 (numR [a,b]).2])∧w=w':=by
 have g0:∀h,((⟨#[a,b]⟩:ByteArray)[0]'h).toNat=a.toNat:=fun _=>rfl
 have g1:∀h,((⟨#[a,b]⟩:ByteArray)[1]'h).toNat=b.toNat:=fun _=>rfl
 have h256:=a.toNat_lt;have h257:=b.toNat_lt
 by_cases h0:a.toNat=48
 ·have hb:((a.toNat:Int)==48)=true:=beq_iff_eq.2 (by omega)
  have hN:=Lib.hid (show numR [a,b]=(0,5) by simp only [numR];rw [if_neg (by omega)]);clear h0
  go_enter Tryz.func168,Tryz.ntmps168;go_wp2_with fail
  go_ret2
  exact ⟨by rw [hN.out];rfl,rfl⟩
 ·have hb:((a.toNat:Int)==48)=false:=beq_eq_false_iff_ne.2 (by omega)
  by_cases k:48≤a.toNat∧a.toNat≤57
  ·have k1:¬((a.toNat:Int)<48):=by omega
   have k2:¬(57<(a.toNat:Int)):=by omega
   by_cases j:48≤b.toNat∧b.toNat≤57
   ·have j1:¬((b.toNat:Int)<48):=by omega
    have j2:¬(57<(b.toNat:Int)):=by omega
    by_cases h31:10*(a.toNat-48)+(b.toNat-48)≤31
    ·have hN:=Lib.hid (show numR [a,b]=(10*((a.toNat:Int)-48)+((b.toNat:Int)-48),0) by simp only [numR];rw [if_pos (by omega),if_pos h31])
     have h31i:¬(31<10*((a.toNat:Int)-48)+((b.toNat:Int)-48)):=by omega
     clear h0 k j h31
     go_enter Tryz.func168,Tryz.ntmps168;go_wp2_with fail
     go_rounds 3
     all_goals (go_ret2;exact ⟨by rw [hN.out];rfl,rfl⟩)
    ·have hN:=Lib.hid (show numR [a,b]=(0,3) by simp only [numR];rw [if_pos (by omega),if_neg h31])
     have h31i:31<10*((a.toNat:Int)-48)+((b.toNat:Int)-48):=by omega
     clear h0 k j h31
     go_enter Tryz.func168,Tryz.ntmps168;go_wp2_with fail
     go_rounds 3
     all_goals (go_ret2;exact ⟨by rw [hN.out];rfl,rfl⟩)
   ·have hN:=Lib.hid (show numR [a,b]=(0,5) by simp only [numR];rw [if_neg (by omega)])
    rcases (by omega:(b.toNat:Int)<48∨(¬(b.toNat:Int)<48∧57<(b.toNat:Int))) with j1|⟨j1,j2⟩
    all_goals
     clear k h0 j
     go_enter Tryz.func168,Tryz.ntmps168;go_wp2_with fail
     go_rounds 3
     all_goals (go_ret2;exact ⟨by rw [hN.out];rfl,rfl⟩)
  ·have hN:=Lib.hid (show numR [a,b]=(0,5) by simp only [numR];rw [if_neg (by omega)])
   rcases (by omega:(a.toNat:Int)<48∨(¬(a.toNat:Int)<48∧57<(a.toNat:Int))) with k1|⟨k1,k2⟩
   all_goals
    clear k h0
    go_enter Tryz.func168,Tryz.ntmps168;go_wp2_with fail
    go_rounds 3
    all_goals (go_ret2;exact ⟨by rw [hN.out];rfl,rfl⟩)
theorem rnumber_any (s:ByteArray) (w:World) :
 Calls Tryz.prog 168 #[.string s] w fun e w'=>e=.returned (.tuple #[.int .i64 (numR s.data.toList).1,.int .i64 (numR s.data.toList).2])∧w=w':=by
 obtain ⟨⟨l⟩⟩:=s
 match l with
 | []=>exact rnumber_out _ w (.inl (by decide))
 | [a]=>exact rnumber_one a w
 | [a,b]=>exact rnumber_two a b w
 | a::b::c::l=>exact rnumber_out _ w (.inr (by show 2<(a::b::c::l).length;simp))
def signR (s:List UInt8):Int × Bool:=if 0≤Lib.indexAny s signs then (Lib.indexAny s signs,Lib.hasPrefix (s.drop ((Lib.indexAny s signs).toNat+1)) [61]) else (0,false)
theorem byte_at (s:ByteArray) (k:Nat) (h:k<s.size):∃c:UInt8,s.data.toList[k]? = some c∧∀h',(s[k]'h').toNat=c.toNat :=
 ⟨_,Lib.data_getElem? s k h,fun _=>rfl⟩
theorem pre_iff (l:List UInt8) (k:Nat):Lib.hasPrefix (l.drop k) [61]=decide (l[k]? = some 61):=by
 rw [Bool.eq_iff_iff,decide_eq_true_iff]
 constructor
 ·intro h
  have:=pre_one h;rwa [List.getElem?_drop] at this
 ·intro h
  have hk:k<l.length:=(List.getElem?_eq_some_iff.1 h).1;rw [List.drop_eq_getElem_cons hk];have:l[k]=61:=by rw [List.getElem?_eq_getElem hk] at h;exact Option.some.inj h
  simp [Lib.hasPrefix,this]
theorem rsign_any (s:ByteArray) (hs:s.size≤1048576) (w:World) :
 Calls Tryz.prog 166 #[.string s] w fun e w'=>e=.returned (.tuple #[.int .i64 (signR s.data.toList).1,.bool (signR s.data.toList).2])∧Below w.heap.size w w':=by
 go_enter Tryz.func166,Tryz.ntmps166;go_wp2_with fail
 go_loop [4] (fun i=>∃k:Nat,k≤s.size∧i=.int .i64 k∧Lib.NoAny s.data.toList signs k) (fun i=>s.size-(intOf i).toNat)
 case atStart=>exact ⟨0,Nat.zero_le _,rfl,Lib.NoAny.zero _ _⟩
 case round =>
  obtain ⟨k,hk,rfl,hn⟩:=hrel;have HN:=Lib.hid hn;clear hn
  by_cases hlt:k<s.size
  ·obtain ⟨c,hc,g0⟩:=byte_at s k hlt
   have HC:=Lib.hid hc;have hd:decide (k<s.size)=true:=by simp [hlt]
   have k0:(0:Int)≤(k:Int):=by omega
   have k1:(k:Int)<(s.size:Int):=by omega
   clear hc
   by_cases hsg:signs.contains c=true
   ·have hi:=Lib.indexAny_hit HN.out HC.out hsg
    have HR:=Lib.hid (show signR s.data.toList=((k:Int),decide (s.data.toList[k+1]? = some 61)) by
     rw [signR,hi,if_pos (by omega),Int.toNat_natCast,pre_iff])
    have hwr:IntKind.i64.wrap ((k:Int)+1)=(k:Int)+1:=IntWalk.i64_in _ (by omega);have htn:((k:Int)+1).toNat=k+1:=by omega
    have hcc:c=60∨c=62:=by simpa [signs] using hsg
    clear hi hsg
    by_cases h1:k+1<s.size
    ·obtain ⟨c',hc',g1⟩:=byte_at s (k+1) h1
     rw [hc'] at HR;have d1:(0:Int)≤(k:Int)+1:=by omega
     have d2:(k:Int)+1<(s.size:Int):=by omega
     have d3:decide ((k:Int)+1<(s.size:Int))=true:=by simp [d2]
     have HE:=Lib.hid (show decide (some c'=some (61:UInt8))=((c'.toNat:Int)==61) by
      rw [Bool.eq_iff_iff];simp;constructor
      ·intro h;subst h;rfl
      ·intro h;exact UInt8.toNat_inj.1 (by show c'.toNat=61;omega))
     clear hc'
     rcases hcc with rfl|rfl
     all_goals
      have g0:∀h,(s[k]'h).toNat=_:=g0;go_wp2_with fail
      go_quiet (fail)
      go_wp2_with fail
      go_ret2
      exact ⟨by rw [HR.out,HE.out];rfl,below_drawn (Below.refl _ _) _⟩
    ·have hnone:s.data.toList[k+1]? = none:=List.getElem?_eq_none (by rw [size_data];omega)
     rw [hnone] at HR;have d3:decide ((k:Int)+1<(s.size:Int))=false:=by simp;omega
     clear hnone
     rcases hcc with rfl|rfl
     all_goals
      have g0:∀h,(s[k]'h).toNat=_:=g0;go_wp2_with fail
      go_quiet (fail)
      go_wp2_with fail
      go_ret2
      exact ⟨by rw [HR.out];rfl,below_drawn (Below.refl _ _) _⟩
   ·have HN2:=Lib.hid (HN.out.succ HC.out (Bool.eq_false_iff.2 hsg))
    have e1:((c.toNat:Int)==60)=false:=beq_eq_false_iff_ne.2 (fun e=>hsg (by rw [show c=60 from UInt8.toNat_inj.1 (by show c.toNat=60;omega)];rfl));have e2:((c.toNat:Int)==62)=false:=beq_eq_false_iff_ne.2 (fun e=>hsg (by rw [show c=62 from UInt8.toNat_inj.1 (by show c.toNat=62;omega)];rfl));clear hsg;go_wp2_with fail
    go_round
    case rel=>exact ⟨k+1,by omega,by go_num,HN2.out⟩
    case measure=>simp [intOf];omega
  ·obtain rfl:k=s.size:=by omega
   have hd:decide (s.size<s.size)=false:=by simp
   have HR:=Lib.hid (show signR s.data.toList=(0,false) by
    rw [signR,Lib.indexAny_none (by rw [size_data];exact HN.out)];rfl)
   go_wp2_with fail
   go_ret2
   exact ⟨by rw [HR.out];rfl,Below.refl _ _⟩
def lastR (s:List UInt8):Bool:=decide (4≤s.length)&&Lib.equalFold (s.take 4) lastL
theorem rlast_step (x y z:UInt8) (hy:97≤y.toNat∧y.toNat≤122) (hz:z.toNat+32=y.toNat):Lib.foldEq x y=decide (x.toNat=y.toNat∨x.toNat=z.toNat):=by
 unfold Lib.foldEq;rw [decide_eq_decide]
 omega
theorem last_at (k:Nat) (hk:k<4):∃y z:UInt8,lastL[k]? = some y∧(97≤y.toNat∧y.toNat≤122)∧z.toNat+32=y.toNat∧(∀h,((⟨#[108,97,115,116]⟩:ByteArray)[k]'h).toNat=y.toNat)∧(∀h,((⟨#[76,65,83,84]⟩:ByteArray)[k]'h).toNat=z.toNat):=by
 rcases (by omega:k=0∨k=1∨k=2∨k=3) with rfl|rfl|rfl|rfl
 ·exact ⟨108,76,rfl,by decide,by decide,fun _=>rfl,fun _=>rfl⟩
 ·exact ⟨97,65,rfl,by decide,by decide,fun _=>rfl,fun _=>rfl⟩
 ·exact ⟨115,83,rfl,by decide,by decide,fun _=>rfl,fun _=>rfl⟩
 ·exact ⟨116,84,rfl,by decide,by decide,fun _=>rfl,fun _=>rfl⟩
def linv (s:List UInt8) (k:Nat):Prop:=Lib.equalFold ((s.take 4).drop k) (lastL.drop k)=Lib.equalFold (s.take 4) lastL
theorem linv_drop (s:List UInt8) (k:Nat) (x y:UInt8) (hk:k<4) (hx:s[k]? = some x) (hy:lastL[k]? = some y):(s.take 4).drop k=x::(s.take 4).drop (k+1)∧lastL.drop k=y::lastL.drop (k+1):=by
 have h1:(s.take 4)[k]? = some x:=by rw [List.getElem?_take,if_pos hk];exact hx
 obtain ⟨a1,a2⟩:=List.getElem?_eq_some_iff.1 h1;obtain ⟨b1,b2⟩:=List.getElem?_eq_some_iff.1 hy;exact ⟨by rw [List.drop_eq_getElem_cons a1,a2],by rw [List.drop_eq_getElem_cons b1,b2]⟩
theorem rlast_any (s:ByteArray) (hs:s.size≤1048576) (w:World) :
 Calls Tryz.prog 169 #[.string s] w fun e w'=>e=.returned (.bool (lastR s.data.toList))∧Below w.heap.size w w':=by
 by_cases h4:s.size<4
 ·have HR:=Lib.hid (show lastR s.data.toList=false by rw [lastR,size_data,decide_eq_false (by omega)];rfl)
  go_enter Tryz.func169,Tryz.ntmps169;go_wp2_with fail
  go_ret
  exact ⟨by rw [HR.out];rfl,Below.refl _ _⟩
 ·have HR:=Lib.hid (show lastR s.data.toList=Lib.equalFold (s.data.toList.take 4) lastL by rw [lastR,size_data,decide_eq_true (by omega)];rfl)
  go_enter Tryz.func169,Tryz.ntmps169;go_wp2_with fail
  go_loopw [3] (fun i wr=>∃k:Nat,k≤4∧i=.int .i64 k∧linv s.data.toList k∧Below w.heap.size w wr) (fun i _=>4-(intOf i).toNat)
  case atStart=>exact ⟨0,by omega,rfl,rfl,Below.refl _ _⟩
  case round =>
   obtain ⟨k,hk,rfl,hi,hb⟩:=hrel;have HI:=Lib.hid hi;have HB:=Lib.hid hb;clear hi hb
   by_cases hlt:k<4
   ·obtain ⟨c,hc,g0⟩:=byte_at s k (by omega)
    obtain ⟨y,z,hy,hy2,hz,g1,g2⟩:=last_at k hlt;obtain ⟨d1,d2⟩:=linv_drop _ k c y hlt hc hy;have HF:=Lib.hid (rlast_step c y z hy2 hz);have HD:=Lib.hid (And.intro d1 d2);have k0:(0:Int)≤(k:Int):=by omega
    have k1:(k:Int)<(s.size:Int):=by omega
    have k2:(k:Int)<4:=by omega
    clear hc hy d1 d2
    by_cases e1:c.toNat=y.toNat
    ·have b1:((c.toNat:Int) != (y.toNat:Int))=false:=by simp [e1]
     have HS:=Lib.hid (show linv s.data.toList (k+1) by
      have:=HI.out;rw [linv,HD.out.1,HD.out.2,Lib.equalFold_yes _ _ _ _ (by rw [HF.out];simp [e1])] at this;exact this)
     clear e1;go_wp2_with fail
     go_quiet (fail)
     go_wp2_with fail
     go_roundw
     case rel=>exact ⟨k+1,by omega,by go_num,HS.out,below_drawn HB.out _⟩
     case measure=>simp [intOf];omega
    ·have b1:((c.toNat:Int) != (y.toNat:Int))=true:=by rw [bne_iff_ne];omega
     by_cases e2:c.toNat=z.toNat
     ·have b2:((c.toNat:Int) != (z.toNat:Int))=false:=by simp [e2]
      have HS:=Lib.hid (show linv s.data.toList (k+1) by
       have:=HI.out;rw [linv,HD.out.1,HD.out.2,Lib.equalFold_yes _ _ _ _ (by rw [HF.out];simp [e2])] at this;exact this)
      clear e1 e2;go_wp2_with fail
      go_quiet (fail)
      go_wp2_with fail
      go_roundw
      case rel=>exact ⟨k+1,by omega,by go_num,HS.out,below_drawn HB.out _⟩
      case measure=>simp [intOf];omega
     ·have b2:((c.toNat:Int) != (z.toNat:Int))=true:=by rw [bne_iff_ne];omega
      have HS:=Lib.hid (show Lib.equalFold (s.data.toList.take 4) lastL=false by
       have:=HI.out;rw [linv,HD.out.1,HD.out.2,Lib.equalFold_no _ _ _ _ (by rw [HF.out];simp [e1,e2])] at this;exact this.symm)
      clear e1 e2;go_wp2_with fail
      go_quiet (fail)
      go_wp2_with fail
      go_ret
      exact ⟨by rw [HR.out,HS.out];rfl,below_drawn HB.out _⟩
   ·obtain rfl:k=4:=by omega
    have HS:=Lib.hid (show Lib.equalFold (s.data.toList.take 4) lastL=true by
     have:=HI.out;rw [linv,List.drop_of_length_le (by rw [List.length_take];omega)] at this;exact this.symm)
    go_wp2_with fail
    go_ret
    exact ⟨by rw [HR.out,HS.out];rfl,HB.out⟩
theorem indexAny_at:∀(s:List UInt8) (i:Nat),Lib.indexAny s signs=(i:Int)→∃c,s[i]? = some c∧(c=60∨c=62)
 | [],i,h=>by simp [Lib.indexAny] at h
 | b::l,i,h=>by
  unfold Lib.indexAny at h
  split at h
  ·rename_i hb
   obtain rfl:i=0:=by omega
   exact ⟨b,rfl,by simpa [signs] using hb⟩
  ·split at h
   ·omega
   ·rename_i _ hx
    have hge:=Lib.indexAny_ge signs l;have hne:Lib.indexAny l signs ≠ -1:=by simpa using hx
    obtain ⟨j,rfl⟩:∃j,i=j+1:=⟨i-1,by omega⟩;obtain ⟨c,hc,h2⟩:=indexAny_at l j (by omega);exact ⟨c,by simpa using hc,h2⟩
theorem rparse_any (s:ByteArray) (hs:s.size≤1048576) (w:World) :
 Calls Tryz.prog 119 #[.string s] w fun e w'=>e=.returned (.tuple #[dayV (parseR s.data.toList).1,.int .i64 (parseR s.data.toList).2])∧Below w.heap.size w w':=by
 have HS:=Lib.hid (rsign_any s hs (w.alloc (.cells #[.int .i64 0,.int .i64 0,.int .i64 0] 57)));have hB0:Below w.heap.size w (w.alloc (.cells #[.int .i64 0,.int .i64 0,.int .i64 0] 57)):=(Below.refl _ w).alloc (Nat.le_refl _) _
 by_cases hA:0≤Lib.indexAny s.data.toList signs∧Lib.hasPrefix (s.data.toList.drop ((Lib.indexAny s.data.toList signs).toNat+1)) [61]=true
 ·have HP:=Lib.hid (show parseR s.data.toList=comparedR s.data.toList (Lib.indexAny s.data.toList signs).toNat from if_pos hA)
  have HG:=Lib.hid (show signR s.data.toList=(Lib.indexAny s.data.toList signs,Lib.hasPrefix (s.data.toList.drop ((Lib.indexAny s.data.toList signs).toNat+1)) [61]) from if_pos hA.1);obtain ⟨h0,hp⟩:=hA;obtain ⟨i,hi⟩:=Int.eq_ofNat_of_zero_le h0;obtain ⟨c,hc,hcc⟩:=indexAny_at _ i hi;rw [hi] at HP HG hp;rw [Int.toNat_natCast] at HP HG hp;rw [hp] at HG
  have h61:s.data.toList[i+1]? = some 61:=by
   have:=pre_one hp;rwa [List.getElem?_drop] at this
  have hi1:i+1<s.size:=by
   rw [←size_data];exact (List.getElem?_eq_some_iff.1 h61).1
  rw [comparedR,hc] at HP;obtain ⟨c2,hc2,g0⟩:=byte_at s i (by omega);obtain rfl:c=c2:=by rw [hc] at hc2;exact Option.some.inj hc2
  rw [HG.out] at HS;clear hp hi h0 HG h61 hc hc2
  go_enter Tryz.func119,Tryz.ntmps119;go_wp2_with fail
  refine HS.out.mono ?_;rintro e w1 ⟨rfl,hb1⟩;have b2:Blk w1 w.heap.size 57 #[.int .i64 0,.int .i64 0,.int .i64 0]:=(Blk.new' w _ _ rfl).below hb1 (by simp);have HB1:=Lib.hid (hB0.trans (hb1.mono hB0.size));have HB2:=Lib.hid b2;clear hb1 b2 hB0 HS;go_wp2_with fail
  refine (rweek_any _ _ (size_part s 0 i _ hs)).mono ?_;rintro e w2 ⟨rfl,hb2⟩;have b2:=HB2.out.below hb2 HB2.out.lt;have HBu:=Lib.hid (HB1.out.trans (hb2.mono HB1.out.size));obtain ⟨r0,r1,r2,q0,q1,q2⟩:=b2.three;rw [list_upto];have hwe:=weekR_err (s.data.toList.take i);generalize weekR (s.data.toList.take i)=A at *;obtain ⟨wi,we⟩:=A;clear hb2 b2 HB1 HB2;simp only at hwe
  rcases hwe with rfl|rfl
  ·go_wp2_with fail
   refine (rnumber_any _ _).mono ?_;rintro e w3 ⟨rfl,rfl⟩;rw [list_from];have hne:=numR_err (s.data.toList.drop (i+2));generalize numR (s.data.toList.drop (i+2))=B at *;obtain ⟨ni,ne⟩:=B;simp only at hne
   rcases hne with rfl|rfl|rfl
   ·rcases hcc with rfl|rfl
    all_goals
     have g0:∀h,(s[i]'h).toNat=_:=g0;go_wp2_with fail
     refine bodyPost_ret (by simp [results,Tryz.results119,go_sem,r0,r1,r2];rfl) rfl ⟨?_,?_⟩
     ·rw [HP.out];rfl
     ·have hBu:=HBu.out;go_grown
   all_goals
    go_wp2_with fail
    refine bodyPost_ret (by simp [results,Tryz.results119,go_sem,r0,r1,r2];rfl) rfl ⟨?_,?_⟩
    ·rw [HP.out];rfl
    ·have hBu:=HBu.out;go_grown
  ·go_wp2_with fail
   refine bodyPost_ret (by simp [results,Tryz.results119,go_sem,r0,r1,r2];rfl) rfl ⟨?_,?_⟩
   ·rw [HP.out];rfl
   ·have hBu:=HBu.out;go_grown
 ·have HP:=Lib.hid (show parseR s.data.toList=if 4≤s.data.toList.length∧Lib.equalFold (s.data.toList.take 4) lastL=true then joinR 2 (weekR (s.data.toList.drop 4)) (0,0) else joinR 1 (0,0) (numR s.data.toList) from if_neg hA)
  have HG:=Lib.hid (show (signR s.data.toList).2=false by
   unfold signR
   split
   ·rename_i h
    exact Bool.eq_false_iff.2 fun h2=>hA ⟨h,h2⟩
   ·rfl)
  have HLs:=Lib.hid (fun w=>rlast_any s hs w)
  have HLR:=Lib.hid (show lastR s.data.toList=decide (4≤s.data.toList.length∧Lib.equalFold (s.data.toList.take 4) lastL=true) by
   unfold lastR;rw [Bool.eq_iff_iff]
   simp)
  clear hA
  go_enter Tryz.func119,Tryz.ntmps119;go_wp2_with fail
  refine HS.out.mono ?_;rintro e w1 ⟨rfl,hb1⟩;rw [HG.out];have b2:Blk w1 w.heap.size 57 #[.int .i64 0,.int .i64 0,.int .i64 0]:=(Blk.new' w _ _ rfl).below hb1 (by simp);have HB1:=Lib.hid (hB0.trans (hb1.mono hB0.size));have HB2:=Lib.hid b2;generalize (signR s.data.toList).1=sg at *;clear hb1 b2 hB0 HS HG;go_wp2_with fail
  refine (HLs.out _).mono ?_;rintro e w2 ⟨rfl,hb2⟩;rw [HLR.out];have b2:=HB2.out.below hb2 HB2.out.lt;have HBv:=Lib.hid (HB1.out.trans (hb2.mono HB1.out.size));have HBb:=Lib.hid b2;clear hb2 b2 HB2 HB1 HLs HLR
  by_cases h4:4≤s.data.toList.length∧Lib.equalFold (s.data.toList.take 4) lastL=true
  ·rw [if_pos h4] at HP
   rw [decide_eq_true h4];have h4i:(4:Int)≤(s.size:Int):=by have:=h4.1;rw [size_data] at this;omega
   clear h4;go_wp2_with fail
   refine (rweek_any _ _ (size_part s 4 s.size _ hs)).mono ?_;rintro e w3 ⟨rfl,hb3⟩;have b2:=HBb.out.below hb3 HBb.out.lt;have HBu:=Lib.hid (HBv.out.trans (hb3.mono HBv.out.size));obtain ⟨r0,r1,r2,q0,q1,q2⟩:=b2.three;rw [list_from];have hwe:=weekR_err (s.data.toList.drop 4);generalize weekR (s.data.toList.drop 4)=A at *;obtain ⟨wi,we⟩:=A;clear hb3 b2 HBv HBb;simp only at hwe
   rcases hwe with rfl|rfl
   all_goals
    go_wp2_with fail
    refine bodyPost_ret (by simp [results,Tryz.results119,go_sem,r0,r1,r2];rfl) rfl ⟨?_,?_⟩
    ·rw [HP.out];rfl
    ·have hBu:=HBu.out;go_grown
  ·rw [if_neg h4] at HP
   rw [decide_eq_false h4];clear h4;obtain ⟨r0,r1,r2,q0,q1,q2⟩:=HBb.out.three;have HBu:=HBv;go_wp2_with fail
   refine (rnumber_any _ _).mono ?_;rintro e w3 ⟨rfl,rfl⟩;have hne:=numR_err s.data.toList;generalize numR s.data.toList=B at *;obtain ⟨ni,ne⟩:=B;simp only at hne
   rcases hne with rfl|rfl|rfl
   all_goals
    go_wp2_with fail
    refine bodyPost_ret (by simp [results,Tryz.results119,go_sem,r0,r1,r2];rfl) rfl ⟨?_,?_⟩
    ·rw [HP.out];rfl
    ·have hBu:=HBu.out;go_grown
def digZ (c:Nat):Int:=if 48≤c∧c≤57 then (c:Int)-48 else -1
theorem digZ_bd (c:Nat):(digZ c<0∧digZ c = -1∧¬(48≤c∧c≤57))∨(0≤digZ c∧digZ c≤9∧digZ c=(c:Int)-48∧48≤c∧c≤57):=by unfold digZ;split<;>omega
def pairZ:List UInt8→Int
 | a::b::_=>if 0≤digZ a.toNat∧0≤digZ b.toNat∧digZ a.toNat≤5 then 10*digZ a.toNat+digZ b.toNat else -1
 | _ => -1
theorem pairZ_bd (l:List UInt8) : -1≤pairZ l∧pairZ l≤59:=by
 unfold pairZ
 split
 ·rename_i a b r
  have h1:=digZ_bd a.toNat;have h2:=digZ_bd b.toNat
  split<;>omega
 ·omega
theorem r4digit_any (c:Nat) (w:World) (hc:c<256) :
 Calls Tryz.prog 192 #[.int .u8 (c:Int)] w fun e w'=>e=.returned (.int .i64 (digZ c))∧w'=w:=by
 rcases (by omega:(c:Int)<48∨(¬(c:Int)<48∧57<(c:Int))∨(¬(c:Int)<48∧¬57<(c:Int))) with h|⟨h,h2⟩|⟨h,h2⟩
 ·have HD:=Lib.hid (show digZ c = -1 from if_neg (by omega))
  go_enter Tryz.func192,Tryz.ntmps192;go_wp2_with fail
  go_ret
  exact ⟨by rw [HD.out];rfl,rfl⟩
 ·have HD:=Lib.hid (show digZ c = -1 from if_neg (by omega))
  go_enter Tryz.func192,Tryz.ntmps192;go_wp2_with fail
  go_ret
  exact ⟨by rw [HD.out];rfl,rfl⟩
 ·have HD:=Lib.hid (show digZ c=(c:Int)-48 from if_pos (by omega))
  have h3:(48:Int)≤(c:Int):=by omega
  have h4:(c:Int)≤57:=by omega
  go_enter Tryz.func192,Tryz.ntmps192;go_wp2_with fail
  go_ret
  exact ⟨by rw [HD.out];rfl,rfl⟩
theorem drop_two {s:ByteArray} {k:Nat} (h:k+1<s.size):∃r,s.data.toList.drop k=(s[k]'(by omega))::(s[k+1]'h)::r:=by
 have hl:s.data.toList.length=s.size:=by simp
 refine ⟨s.data.toList.drop (k+2),?_⟩;rw [List.drop_eq_getElem_cons (by omega),List.drop_eq_getElem_cons (by omega)]
 rfl
theorem drop_short {s:ByteArray} {k:Nat} (h:¬k+1<s.size):pairZ (s.data.toList.drop k) = -1:=by
 have hl:(s.data.toList.drop k).length≤1:=by simp;omega
 match h':s.data.toList.drop k,hl with
 | [],_=>rfl
 | [a],_=>rfl
 | a::b::r,hl=>simp at hl
theorem r4pair_any (s:ByteArray) (k:Nat) (w:World) (hs:s.size≤1048576) (hk:k≤1048576) :
 Calls Tryz.prog 193 #[.string s,.int .i64 (k:Int)] w fun e w'=>e=.returned (.int .i64 (pairZ (s.data.toList.drop k)))∧Below w.heap.size w w':=by
 by_cases hlt:k+1<s.size
 ·obtain ⟨r,hr⟩:=drop_two hlt
  obtain ⟨a,ha⟩:∃a:Nat,a=(s[k]'(by omega)).toNat:=⟨_,rfl⟩;obtain ⟨b,hb⟩:∃b:Nat,b=(s[k+1]'hlt).toNat:=⟨_,rfl⟩;have g0:∀h,(s[k]'h).toNat=a:=fun _=>ha.symm
  have g1:∀h,(s[k+1]'h).toNat=b:=fun _=>hb.symm
  have HP:=Lib.hid (show pairZ (s.data.toList.drop k)=if 0≤digZ a∧0≤digZ b∧digZ a≤5 then 10*digZ a+digZ b else -1 by rw [hr,ha,hb];rfl);have HA:=Lib.hid (fun w=>r4digit_any a w (by rw [ha];exact (s[k]'(by omega)).toNat_lt));have HB:=Lib.hid (fun w=>r4digit_any b w (by rw [hb];exact (s[k+1]'hlt).toNat_lt));have bda:=digZ_bd a;have bdb:=digZ_bd b;have e0:¬(s.size:Int)<(k:Int)+2:=by omega
  have i0:(k:Int)<(s.size:Int):=by omega
  have i1:(k:Int)+1<(s.size:Int):=by omega
  have i2:IntKind.i64.wrap ((k:Int)+1)=(k:Int)+1:=IntWalk.i64_in _ (by omega);have i3:((k:Int)+1).toNat=k+1:=by omega
  have i4:(0:Int)≤(k:Int)+1:=by omega
  have d0:decide (k<s.size)=true:=by simp;omega
  have d1:decide (k+1<s.size)=true:=by simp;omega
  clear hr ha hb hlt;generalize digZ a=x at *;generalize digZ b=y at *
  by_cases hx:x<0
  ·have HP2:=Lib.hid (HP.out.trans (if_neg (by omega)))
   clear HP bda bdb
   go_enter Tryz.func193,Tryz.ntmps193;go_wp2_with fail
   refine (HA.out _).mono ?_;rintro e w1 ⟨rfl,rfl⟩;go_wp2_with fail
   go_ret
   exact ⟨by rw [HP2.out];rfl,Below.refl _ _⟩
  ·by_cases hy:y<0
   ·have HP2:=Lib.hid (HP.out.trans (if_neg (by omega)))
    clear HP bda bdb
    go_enter Tryz.func193,Tryz.ntmps193;go_wp2_with fail
    refine (HA.out _).mono ?_;rintro e w1 ⟨rfl,rfl⟩;go_wp2_with fail
    refine (HB.out _).mono ?_;rintro e w1 ⟨rfl,rfl⟩;go_wp2_with fail
    go_ret
    exact ⟨by rw [HP2.out];rfl,Below.refl _ _⟩
   ·by_cases h5:5<x
    ·have HP2:=Lib.hid (HP.out.trans (if_neg (by omega)))
     clear HP bda bdb
     go_enter Tryz.func193,Tryz.ntmps193;go_wp2_with fail
     refine (HA.out _).mono ?_;rintro e w1 ⟨rfl,rfl⟩;go_wp2_with fail
     refine (HB.out _).mono ?_;rintro e w1 ⟨rfl,rfl⟩;go_wp2_with fail
     refine (HA.out _).mono ?_;rintro e w1 ⟨rfl,rfl⟩;go_wp2_with fail
     go_ret
     exact ⟨by rw [HP2.out];rfl,Below.refl _ _⟩
    ·have HP2:=Lib.hid (HP.out.trans (if_pos (by omega)))
     have j0:IntKind.i64.wrap (10*x)=10*x:=IntWalk.i64_in _ (by omega);have j1:IntKind.i64.wrap (10*x+y)=10*x+y:=IntWalk.i64_in _ (by omega);clear HP bda bdb
     go_enter Tryz.func193,Tryz.ntmps193;go_wp2_with fail
     refine (HA.out _).mono ?_;rintro e w1 ⟨rfl,rfl⟩;go_wp2_with fail
     refine (HB.out _).mono ?_;rintro e w1 ⟨rfl,rfl⟩;go_wp2_with fail
     refine (HA.out _).mono ?_;rintro e w1 ⟨rfl,rfl⟩;go_wp2_with fail
     go_quiet ((go_at_call 192;first|(with_reducible exact Calls.quiet_of_same (HA.out _))|(with_reducible exact Calls.quiet_of_same (HB.out _))))
     go_wp2_with fail
     go_ret
     exact ⟨by rw [HP2.out];rfl,below_drawn (Below.refl _ _) _⟩
 ·have HP:=Lib.hid (drop_short hlt)
  have e0:(s.size:Int)<(k:Int)+2:=by omega
  clear hlt
  go_enter Tryz.func193,Tryz.ntmps193;go_wp2_with fail
  go_ret
  exact ⟨by rw [HP.out];rfl,Below.refl _ _⟩
theorem partR_pair (c:UInt8) (r:List UInt8):partR (c::r)=if c=58∧0≤pairZ r then some ((pairZ r).toNat,r.drop 2) else none:=by
 show (if c=58∧digLen 2 r=2∧valD (r.take 2)≤59 then some (valD (r.take 2),r.drop 2) else none)=_
 match r with
 | []=>simp [digLen,pairZ]
 | [a] =>
  have h:digLen 2 [a]≠2:=by have:=(digLen_le 2 [a]).2;simp at this;omega
  simp [h,pairZ]
 | a::b::r =>
  have h1:=digZ_bd a.toNat;have h2:=digZ_bd b.toNat
  by_cases hc:c=58
  ·by_cases ha:48≤a.toNat∧a.toNat≤57
   ·by_cases hb:48≤b.toNat∧b.toNat≤57
    ·have hd:digLen 2 (a::b::r)=2:=by simp [digLen,ha,hb]
     have hv:valD ((a::b::r).take 2)=(a.toNat-48)*10+(b.toNat-48):=by simp [valD]
     have hp:pairZ (a::b::r)=if digZ a.toNat≤5 then 10*digZ a.toNat+digZ b.toNat else -1:=by
      show (if 0≤digZ a.toNat∧0≤digZ b.toNat∧digZ a.toNat≤5 then 10*digZ a.toNat+digZ b.toNat else -1)=_
      by_cases h5:digZ a.toNat≤5
      ·rw [if_pos (by omega),if_pos h5]
      ·rw [if_neg (by omega),if_neg h5]
     by_cases h5:digZ a.toNat≤5
     ·rw [if_pos h5] at hp
      rw [if_pos ⟨hc,hd,by rw [hv];omega⟩,if_pos ⟨hc,by rw [hp];omega⟩,hv,hp];have:(a.toNat-48)*10+(b.toNat-48)=(10*digZ a.toNat+digZ b.toNat).toNat:=by omega
      rw [this]
     ·rw [if_neg h5] at hp
      rw [if_neg (fun h=>by have:=h.2.2;rw [hv] at this;omega),if_neg (fun h=>by rw [hp] at h;omega)]
    ·have hd:digLen 2 (a::b::r)≠2:=by simp [digLen,ha,hb]
     have hp:pairZ (a::b::r) = -1:=if_neg (by omega);rw [if_neg (fun h=>hd h.2.1),if_neg (fun h=>by rw [hp] at h;omega)]
   ·have hd:digLen 2 (a::b::r)≠2:=by simp [digLen,ha]
    have hp:pairZ (a::b::r) = -1:=if_neg (by omega);rw [if_neg (fun h=>hd h.2.1),if_neg (fun h=>by rw [hp] at h;omega)]
  ·rw [if_neg (fun h=>hc h.1),if_neg (fun h=>hc h.1)]
theorem pairZ_len (l:List UInt8):pairZ l<0∨2≤l.length:=by
 match l with
 | []=>exact .inl (by decide)
 | [a]=>exact .inl (by show (-1:Int)<0;decide)
 | a::b::r=>exact .inr (by simp)
theorem r4form_none {l:List UInt8} (h:hoursR l=none):formR l=none:=by simp [formR,stR,stepR,h]
theorem r4form_nil {l:List UInt8} {n:Nat} (h:hoursR l=some (n,[])):formR l=some (3600*n):=by simp [formR,stR,stepR,h]
theorem r4form_bad {l:List UInt8} {n:Nat} {c:UInt8} {r:List UInt8} (h:hoursR l=some (n,c::r)) (hp:partR (c::r)=none):formR l=none:=by simp [formR,stR,stepR,h,hp]
theorem r4form_min {l:List UInt8} {n m:Nat} {c:UInt8} {r:List UInt8} (h:hoursR l=some (n,c::r)) (hp:partR (c::r)=some (m,[])):formR l=some (3600*n+60*m):=by simp [formR,stR,stepR,h,hp]
theorem r4form_bad2 {l:List UInt8} {n m:Nat} {c d:UInt8} {r r2:List UInt8} (h:hoursR l=some (n,c::r)) (hp:partR (c::r)=some (m,d::r2)) (hq:partR (d::r2)=none):formR l=none:=by simp [formR,stR,stepR,h,hp,hq]
theorem r4form_sec {l:List UInt8} {n m x:Nat} {c d:UInt8} {r r2 r3:List UInt8} (h:hoursR l=some (n,c::r)) (hp:partR (c::r)=some (m,d::r2)) (hq:partR (d::r2)=some (x,r3)):formR l=if r3=[] then some (3600*n+60*m+x) else none:=by simp [formR,stR,stepR,h,hp,hq]
theorem r4hours_at {l:List UInt8} {k:Nat} (hk:k≤3) (hl:k≤l.length) (hd:allD (l.take k)) (hn:∀c,(l.drop k).head? = some c→¬(48≤c.toNat∧c.toNat≤57)):hoursR l=if k=0∨(1<k∧l.head? = some 48) then none else some (valD (l.take k),l.drop k):=by
 have h:=digLen_app 3 (l.take k) (l.drop k) hd (by simp;omega) hn;rw [List.take_append_drop,List.length_take,Nat.min_eq_left hl] at h;unfold hoursR;rw [h]
theorem r4form_four {l:List UInt8} (hl:4≤l.length) (hd:allD (l.take 4)):formR l=none:=by
 match l,hl with
 | a::b::c::d::r,_ =>
  have ha:=hd a (by simp);have hb:=hd b (by simp);have hc:=hd c (by simp);have hd4:=hd d (by simp);have hg:digLen 3 (a::b::c::d::r)=3:=by simp [digLen,ha,hb,hc]
  cases hh:hoursR (a::b::c::d::r) with
  | none=>exact r4form_none hh
  | some x =>
   unfold hoursR at hh;rw [hg] at hh;simp only at hh
   split at hh
   ·cases hh
   ·cases hh
    refine r4form_bad (n:=valD ((a::b::c::d::r).take 3)) (c:=d) (r:=r) ?_ ?_
    ·unfold hoursR
     rw [hg];simp only;rw [if_neg (by assumption)]
     rfl
    ·rw [partR_pair,if_neg]
     rintro ⟨h,_⟩;subst h;exact absurd hd4 (by decide)
theorem r4valD_snoc (l:List UInt8) (c:UInt8):valD (l++[c])=valD l*10+(c.toNat-48):=by simp [valD]
theorem r4valD_lt (l:List UInt8) (h:allD l):valD l<10 ^ l.length:=by
 have key:∀(l:List UInt8) (a:Nat),allD l→l.foldl (fun a c=>a*10+(c.toNat-48)) a<(a+1)*10 ^ l.length:=by
  intro l
  induction l with
  | nil=>intro a _;simp
  | cons c l ih =>
   intro a hd;have hc:=hd c (by simp);have:=ih (a*10+(c.toNat-48)) (fun x hx=>hd x (by simp [hx]));rw [List.foldl_cons,List.length_cons,Nat.pow_succ];refine Nat.lt_of_lt_of_le this ?_;rw [Nat.mul_comm (10 ^ l.length) 10,←Nat.mul_assoc];exact Nat.mul_le_mul_right _ (by omega)
 have:=key l 0 h
 simpa [valD] using this
def formV (o:Option Nat):Value:=.tuple #[.int .i64 ((o.getD 0:Nat):Int),.bool o.isSome]
theorem r4form_any (s:ByteArray) (w:World) (hs:s.size≤1048576) :
 Calls Tryz.prog 160 #[.string s] w fun e w'=>e=.returned (formV (formR s.data.toList))∧Below w.heap.size w w':=by
 have hll:s.data.toList.length=s.size:=by simp
 go_enter Tryz.func160,Tryz.ntmps160;go_wp2_with fail
 go_loop [4,5] (fun i h=>∃k:Nat,k≤3∧k≤s.size∧i=.int .i64 (k:Int)∧h=.int .i64 (valD (s.data.toList.take k):Int)∧Aside (allD (s.data.toList.take k))) (fun i _=>s.size-(intOf i).toNat)
 case atStart=>exact ⟨0,by omega,Nat.zero_le _,rfl,rfl,fun a ha=>by simp at ha⟩
 case round =>
  obtain ⟨k,hk3,hk,rfl,rfl,hall⟩:=hrel;have hv:=r4valD_lt _ hall.out
  have hv999:valD (s.data.toList.take k)≤999:=by
   have h1:(s.data.toList.take k).length=k:=by simp;omega
   rw [h1] at hv
   rcases (by omega:k=0∨k=1∨k=2∨k=3) with rfl|rfl|rfl|rfl<;>omega
  have HA:=Lib.hid hall.out;clear hall hv
  by_cases hlt:k<s.size
  ·obtain ⟨c8,hc8⟩:∃c:UInt8,c=s[k]'hlt:=⟨_,rfl⟩
   have hdk:s.data.toList.drop k=c8::s.data.toList.drop (k+1):=by rw [List.drop_eq_getElem_cons (by omega),hc8];rfl
   have htk:s.data.toList.take (k+1)=s.data.toList.take k++[c8]:=by
    rw [List.take_succ_eq_append_getElem (by omega),hc8];rfl
   have g0:∀h,(s[k]'h).toNat=c8.toNat:=fun _=>by rw [hc8]
   have HD:=Lib.hid (fun w=>r4digit_any c8.toNat w c8.toNat_lt);have bd:=digZ_bd c8.toNat;have d0:decide (k<s.size)=true:=by simp;omega
   have HT:=Lib.hid (And.intro htk hdk);clear hc8 htk hdk
   by_cases hx:0≤digZ c8.toNat
   ·have hva:valD (s.data.toList.take k)*10+(c8.toNat-48)=valD (s.data.toList.take (k+1)):=by rw [HT.out.1,r4valD_snoc]
    have HV:=Lib.hid (show (10*(valD (s.data.toList.take k):Int)+digZ c8.toNat)=(valD (s.data.toList.take (k+1)):Int) by rw [←hva];omega)
    have HA2:=Lib.hid (show allD (s.data.toList.take (k+1)) by
     rw [HT.out.1];intro a ha
     rcases List.mem_append.1 ha with h|h
     ·exact HA.out a h
     ·simp at h;subst h;omega)
    have b9:digZ c8.toNat≤9:=by omega
    clear hva bd;generalize digZ c8.toNat=x at *
    by_cases h3:k=3
    ·subst h3
     have HF:=Lib.hid (r4form_four (l:=s.data.toList) (by omega) HA2.out);go_wp2_with fail
     refine (HD.out _).mono ?_;rintro e w1 ⟨rfl,rfl⟩;go_wp2_with fail
     refine (HD.out _).mono ?_;rintro e w1 ⟨rfl,rfl⟩;go_wp2_with fail
     go_ret2
     exact ⟨by rw [HF.out];rfl,Below.refl _ _⟩
    ·have h3':¬(3:Int)<(k:Int)+1:=by omega
     clear h3;go_wp2_with fail
     refine (HD.out _).mono ?_;rintro e w1 ⟨rfl,rfl⟩;go_wp2_with fail
     refine (HD.out _).mono ?_;rintro e w1 ⟨rfl,rfl⟩;go_wp2_with fail
     go_round
     case rel=>exact ⟨k+1,by omega,by omega,by go_num,by rw [HV.out],HA2.out⟩
     case measure=>simp [intOf];omega
   ·have hH:=r4hours_at (l:=s.data.toList) hk3 (by omega) HA.out (by rw [HT.out.2];intro c hc;cases hc;omega)
    have hneb:decide (s.size=k)=false:=by simp;omega
    have hneb2:((s.size:Int)==(k:Int))=false:=by rw [beq_eq_false_iff_ne];omega
    have hx':digZ c8.toNat<0:=by omega
    have HH:=Lib.hid hH;have HT2:=Lib.hid HT.out.2;clear hH hx bd HT HA;obtain ⟨c0,hc0⟩:∃c:UInt8,c=s[0]'(by omega):=⟨_,rfl⟩;have g00:∀h,(s[0]'h).toNat=c0.toNat:=fun _=>by rw [hc0]
    have hhead:s.data.toList.head? = some c0:=by
     rw [List.head?_eq_getElem?,List.getElem?_eq_getElem (by omega),hc0];rfl
    have hs0:(0:Int)<(s.size:Int):=by omega
    by_cases hz:k=0∨(1<k∧c0=48)
    ·have HF:=Lib.hid (r4form_none (HH.out.trans (if_pos (by rw [hhead];rcases hz with h|⟨h,h2⟩;exact .inl h;exact .inr ⟨h,by rw [h2]⟩))))
     clear HH HT2
     by_cases hk0:k=0
     ·have hk0b:((k:Int)==0)=true:=by rw [hk0];rfl
      clear hz hc0 hhead hk0;go_wp2_with fail
      refine (HD.out _).mono ?_;rintro e w1 ⟨rfl,rfl⟩;go_wp2_with fail
      go_ret2
      exact ⟨by rw [HF.out];rfl,Below.refl _ _⟩
     ·have h1:(1:Int)<(k:Int):=by omega
      have hk0b:((k:Int)==0)=false:=by rw [beq_eq_false_iff_ne];omega
      have h48:((c0.toNat:Int)==48)=true:=by
       rcases hz with h|⟨h,h2⟩
       ·exact absurd h hk0
       ·rw [h2];rfl
      clear hz hc0 hhead hk0;go_wp2_with fail
      refine (HD.out _).mono ?_;rintro e w1 ⟨rfl,rfl⟩;go_wp2_with fail
      go_ret2
      exact ⟨by rw [HF.out];rfl,Below.refl _ _⟩
    ·have HR:=Lib.hid (HH.out.trans (if_neg (by rw [hhead];intro h;refine hz ?_;rcases h with h|⟨h,h2⟩;exact .inl h;exact .inr ⟨h,by injection h2⟩)))
     clear HH;have hk0b:((k:Int)==0)=false:=by rw [beq_eq_false_iff_ne];omega
     have hp1:((1:Int)<(k:Int)∧((c0.toNat:Int)==48)=false)∨¬(1:Int)<(k:Int):=by
      by_cases h:1<k
      ·refine .inl ⟨by omega,?_⟩
       rw [beq_eq_false_iff_ne];intro h2;refine hz (.inr ⟨h,?_⟩);exact UInt8.toNat_inj.1 (by have a1:(48:UInt8).toNat=48:=rfl;have a2:(58:UInt8).toNat=58:=rfl;omega)
      ·exact .inr (by omega)
     have hPb:=pairZ_bd (s.data.toList.drop (k+1));have hPl:=pairZ_len (s.data.toList.drop (k+1));have HPm:=Lib.hid (fun w=>by have h:=r4pair_any s (k+1) w hs (by omega);rwa [show ((k+1:Nat):Int)=(k:Int)+1 by omega] at h);have hpp:=partR_pair c8 (s.data.toList.drop (k+1));rw [List.drop_drop] at hpp;have HPP:=Lib.hid hpp;have hdl:(s.data.toList.drop (k+1)).length=s.size-(k+1):=by simp
     rw [hdl] at hPl;clear hz hc0 hhead hpp hdl;rw [HT2.out] at HR;generalize pairZ (s.data.toList.drop (k+1))=m at *;generalize valD (s.data.toList.take k)=hh at *;have hci:(k:Int)<(s.size:Int):=by omega
     rcases hp1 with ⟨q1,q2⟩|q1
     all_goals
      go_wp2_with fail
      refine (HD.out _).mono ?_;rintro e w1 ⟨rfl,rfl⟩;go_wp2_with fail
      refine (HPm.out _).mono ?_;rintro e w1 ⟨rfl,hb1⟩
      by_cases h58:c8=58
      ·have h58b:((c8.toNat:Int) != 58)=false:=by rw [h58];rfl
       by_cases hm:m<0
       ·have HF:=Lib.hid (r4form_bad HR.out (HPP.out.trans (if_neg (by omega))))
        clear HPP HR;go_wp2_with fail
        go_ret2
        exact ⟨by rw [HF.out];rfl,hb1⟩
       ·have HP2:=Lib.hid (HPP.out.trans (if_pos ⟨h58,by omega⟩))
        clear HPP;have hsz:k+3≤s.size:=by omega
        by_cases h3:s.size=k+3
        ·have hd0:s.data.toList.drop (k+1+2)=[]:=List.drop_eq_nil_of_le (by omega)
         rw [hd0] at HP2;have HF:=Lib.hid (r4form_min HR.out HP2.out);have h3b:((s.size:Int)==(k:Int)+3)=true:=by rw [beq_iff_eq];omega
         have hmn:(m.toNat:Int)=m:=by omega
         have HV:=Lib.hid (show ((3600*hh+60*m.toNat:Nat):Int)=3600*(hh:Int)+60*m by omega);clear hd0 HP2 HR h3 hmn;go_wp2_with fail
         go_ret2
         exact ⟨by rw [HF.out,formV];simp only [Option.getD_some,Option.isSome_some];rw [HV.out];rfl,hb1⟩
        ·have h3b:((s.size:Int)==(k:Int)+3)=false:=by rw [beq_eq_false_iff_ne];omega
         have hlt3:k+3<s.size:=by omega
         obtain ⟨d8,hd8⟩:∃d:UInt8,d=s[k+3]'hlt3:=⟨_,rfl⟩;have g3:∀h,(s[k+3]'h).toNat=d8.toNat:=fun _=>by rw [hd8]
         have hd3:s.data.toList.drop (k+1+2)=d8::s.data.toList.drop (k+4):=by
          rw [List.drop_eq_getElem_cons (by omega),hd8];rfl
         rw [hd3] at HP2;have hQb:=pairZ_bd (s.data.toList.drop (k+4));have hQl4:=pairZ_len (s.data.toList.drop (k+4));have hdl4:(s.data.toList.drop (k+4)).length=s.size-(k+4):=by simp
         rw [hdl4] at hQl4;clear hdl4;have HPs:=Lib.hid (fun w=>by have h:=r4pair_any s (k+4) w hs (by omega);rwa [show ((k+4:Nat):Int)=(k:Int)+4 by omega] at h);have hqq:=partR_pair d8 (s.data.toList.drop (k+4));rw [List.drop_drop] at hqq;have HQQ:=Lib.hid hqq;clear hd8 hd3 h3 hqq;generalize pairZ (s.data.toList.drop (k+4))=x at *;have hci3:(k:Int)+3<(s.size:Int):=by omega
         have hci3n:((k:Int)+3).toNat=k+3:=by omega
         go_wp2_with fail
         refine (HPs.out _).mono ?_;rintro e w2 ⟨rfl,hb2⟩;have HB:=Lib.hid (hb1.trans (hb2.mono hb1.size));clear hb1 hb2
         by_cases e58:d8=58
         ·have e58b:((d8.toNat:Int) != 58)=false:=by rw [e58];rfl
          by_cases hx0:x<0
          ·have HF:=Lib.hid (r4form_bad2 HR.out HP2.out (HQQ.out.trans (if_neg (by omega))))
           clear HP2 HQQ HR;go_wp2_with fail
           go_ret2
           exact ⟨by rw [HF.out];rfl,HB.out⟩
          ·have HQ2:=Lib.hid (HQQ.out.trans (if_pos ⟨e58,by omega⟩))
           have HF:=Lib.hid (r4form_sec HR.out HP2.out HQ2.out);clear HP2 HQQ HR HQ2
           by_cases h6:s.size=k+6
           ·have HF2:=Lib.hid (HF.out.trans (if_pos (List.drop_eq_nil_of_le (by omega))))
            have h6b:((s.size:Int) != (k:Int)+6)=false:=by rw [bne_eq_false_iff_eq];omega
            have HV:=Lib.hid (show ((3600*hh+60*m.toNat+x.toNat:Nat):Int)=3600*(hh:Int)+60*m+x by omega);clear HF h6;go_wp2_with fail
            go_ret2
            exact ⟨by rw [HF2.out,formV];simp only [Option.getD_some,Option.isSome_some];rw [HV.out];rfl,HB.out⟩
           ·have hQl:k+6≤s.size:=by omega
            have HF2:=Lib.hid (HF.out.trans (if_neg (by intro h;have:=congrArg List.length h;simp at this;omega)));have h6b:((s.size:Int) != (k:Int)+6)=true:=by rw [bne_iff_ne];omega
            clear HF h6;go_wp2_with fail
            go_ret2
            exact ⟨by rw [HF2.out];rfl,HB.out⟩
         ·have e58b:((d8.toNat:Int) != 58)=true:=by rw [bne_iff_ne];intro h;exact e58 (UInt8.toNat_inj.1 (by have a1:(48:UInt8).toNat=48:=rfl;have a2:(58:UInt8).toNat=58:=rfl;omega))
          have HF:=Lib.hid (r4form_bad2 HR.out HP2.out (HQQ.out.trans (if_neg (fun h=>e58 h.1))));clear HP2 HQQ HR;go_wp2_with fail
          go_ret2
          exact ⟨by rw [HF.out];rfl,HB.out⟩
      ·have h58b:((c8.toNat:Int) != 58)=true:=by rw [bne_iff_ne];intro h;exact h58 (UInt8.toNat_inj.1 (by have a1:(48:UInt8).toNat=48:=rfl;have a2:(58:UInt8).toNat=58:=rfl;omega))
       have HF:=Lib.hid (r4form_bad HR.out (HPP.out.trans (if_neg (fun h=>h58 h.1))));clear HPP HR;go_wp2_with fail
       go_ret2
       exact ⟨by rw [HF.out];rfl,hb1⟩
  ·obtain rfl:k=s.size:=by omega
   have hH:=r4hours_at (l:=s.data.toList) hk3 (by omega) HA.out (by rw [List.drop_eq_nil_of_le (by omega)];intro c hc;cases hc);have HH:=Lib.hid (show hoursR s.data.toList=if s.size=0∨(1<s.size∧s.data.toList.head? = some 48) then none else some (valD (s.data.toList.take s.size),[]) by rw [hH,List.drop_eq_nil_of_le (by omega)]);have heb:((s.size:Int)==(s.size:Int))=true:=by simp
   clear hH hlt HA
   by_cases hz:s.size=0
   ·have HF:=Lib.hid (r4form_none (HH.out.trans (if_pos (.inl hz))))
    have hk0b:((s.size:Int)==0)=true:=by rw [beq_iff_eq];omega
    have hd0:decide (s.size<s.size)=false:=by simp
    clear HH hz;go_wp2_with fail
    go_ret2
    exact ⟨by rw [HF.out];rfl,Below.refl _ _⟩
   ·obtain ⟨c0,hc0⟩:∃c:UInt8,c=s[0]'(by omega):=⟨_,rfl⟩
    have g00:∀h,(s[0]'h).toNat=c0.toNat:=fun _=>by rw [hc0]
    have hhead:s.data.toList.head? = some c0:=by
     rw [List.head?_eq_getElem?,List.getElem?_eq_getElem (by omega),hc0];rfl
    have hs0:(0:Int)<(s.size:Int):=by omega
    have hk0b:((s.size:Int)==0)=false:=by rw [beq_eq_false_iff_ne];omega
    have hd0:decide (s.size<s.size)=false:=by simp
    by_cases h1:1<s.size
    ·have h1i:(1:Int)<(s.size:Int):=by omega
     by_cases h48:c0=48
     ·have HF:=Lib.hid (r4form_none (HH.out.trans (if_pos (.inr ⟨h1,by rw [hhead,h48]⟩))))
      have h48b:((c0.toNat:Int)==48)=true:=by rw [h48];rfl
      clear HH hz hc0 hhead h1;go_wp2_with fail
      go_ret2
      exact ⟨by rw [HF.out];rfl,Below.refl _ _⟩
     ·have HF:=Lib.hid (r4form_nil (HH.out.trans (if_neg (by rintro (h|⟨h,h2⟩);exact hz h;rw [hhead] at h2;injection h2 with h2;exact h48 h2))))
      have h48b:((c0.toNat:Int)==48)=false:=by rw [beq_eq_false_iff_ne];intro h;exact h48 (UInt8.toNat_inj.1 (by have a1:(48:UInt8).toNat=48:=rfl;have a2:(58:UInt8).toNat=58:=rfl;omega))
      have HV:=Lib.hid (show ((3600*valD (s.data.toList.take s.size):Nat):Int)=3600*(valD (s.data.toList.take s.size):Int) by omega);clear HH hz hc0 hhead h1;generalize valD (s.data.toList.take s.size)=hh at *;go_wp2_with fail
      go_ret2
      exact ⟨by rw [HF.out,formV];simp only [Option.getD_some,Option.isSome_some];rw [HV.out];rfl,Below.refl _ _⟩
    ·have h1i:¬(1:Int)<(s.size:Int):=by omega
     have HF:=Lib.hid (r4form_nil (HH.out.trans (if_neg (by rintro (h|⟨h,h2⟩);exact hz h;exact h1 h))));have HV:=Lib.hid (show ((3600*valD (s.data.toList.take s.size):Nat):Int)=3600*(valD (s.data.toList.take s.size):Int) by omega);clear HH hz hc0 hhead h1;generalize valD (s.data.toList.take s.size)=hh at *;go_wp2_with fail
     go_ret2
     exact ⟨by rw [HF.out,formV];simp only [Option.getD_some,Option.isSome_some];rw [HV.out];rfl,Below.refl _ _⟩
theorem formV_none:formV none=.tuple #[.int .i64 0,.bool false]:=rfl
theorem formV_some (n:Nat):formV (some n)=.tuple #[.int .i64 (n:Int),.bool true]:=rfl
theorem r4parse_any (s:ByteArray) (w:World) (hs:s.size≤1048576) :
 Calls Tryz.prog 110 #[.string s] w fun e w'=>e=.returned (.tuple #[.int .i64 (offParseR s.data.toList).1,.int .i64 (offParseR s.data.toList).2])∧Below w.heap.size w w':=by
 by_cases hmn:s.data.toList.head? = some 45
 ·have hE:=endR_of s true (decide_eq_true hmn)
  have hb:bare s=s.extract 1 s.size:=if_pos hmn;have hbl:=bare_le s hs;rw [hb] at hE hbl
  have hsz:0<s.size:=by
   rcases Nat.eq_zero_or_pos s.size with h|h
   ·have:s.data.toList=[]:=List.eq_nil_of_length_eq_zero (by simpa using h)
    rw [this] at hmn;cases hmn
   ·exact h
  have h0:(0:Int)<(s.size:Int):=by omega
  have h1:(1:Int)≤(s.size:Int):=by omega
  have hd:decide (0<s.size)=true:=by simp [hsz]
  have g0:∀h,(s[0]'h).toNat=45:=by
   intro h;obtain ⟨a,ha,hb⟩:=head_at (s:=s) (by omega);rw [hmn] at ha
   cases ha
   rw [hb];rfl
  obtain ⟨t,ht⟩:∃t,s.extract 1 s.size=t:=⟨_,rfl⟩;rw [ht] at hE hbl;have HT:=Lib.hid ht;obtain ⟨F,hF⟩:∃F,formR t.data.toList=F:=⟨_,rfl⟩;have HF:=Lib.hid (fun w=>hF ▸ r4form_any t w hbl);rw [hF] at hE;have HE:=Lib.hid hE;clear hmn hb ht hF hE hsz
  cases F with
  | none =>
   rw [formV_none] at HF
   go_enter Tryz.func110,Tryz.ntmps110;go_wp2_with fail
   rw [HT.out];refine (HF.out _).mono ?_;rintro e w1 ⟨rfl,hb1⟩;go_wp2_with fail
   go_ret2
   exact ⟨by rw [HE.out];rfl,hb1⟩
  | some n =>
   rw [formV_some] at HF
   by_cases hn:n=0
   ·have HE2:=Lib.hid (show offParseR s.data.toList=(0,5) by rw [HE.out,hn];rfl)
    have hnb:((n:Int)==0)=true:=by rw [beq_iff_eq];omega
    clear hn HE
    go_enter Tryz.func110,Tryz.ntmps110;go_wp2_with fail
    rw [HT.out];refine (HF.out _).mono ?_;rintro e w1 ⟨rfl,hb1⟩;go_wp2_with fail
    go_ret2
    exact ⟨by rw [HE2.out];rfl,hb1⟩
   ·have hnb:((n:Int)==0)=false:=by rw [beq_eq_false_iff_ne];omega
    by_cases hm:604799<n
    ·have HE2:=Lib.hid (show offParseR s.data.toList=(0,3) by rw [HE.out];simp [endR,hn,hm])
     have hmi:(604799:Int)<(n:Int):=by omega
     clear hn HE hm
     go_enter Tryz.func110,Tryz.ntmps110;go_wp2_with fail
     rw [HT.out];refine (HF.out _).mono ?_;rintro e w1 ⟨rfl,hb1⟩;go_wp2_with fail
     go_ret2
     exact ⟨by rw [HE2.out];rfl,hb1⟩
    ·have HE2:=Lib.hid (show offParseR s.data.toList=(-(n:Int),0) by rw [HE.out];simp [endR,hn,hm])
     have hmi:¬(604799:Int)<(n:Int):=by omega
     clear hn HE hm
     go_enter Tryz.func110,Tryz.ntmps110;go_wp2_with fail
     rw [HT.out];refine (HF.out _).mono ?_;rintro e w1 ⟨rfl,hb1⟩;go_wp2_with fail
     go_ret2
     exact ⟨by rw [HE2.out];rfl,hb1⟩
 ·have hE:=endR_of s false (decide_eq_false hmn)
  have hb:bare s=s:=if_neg hmn;rw [hb] at hE
  have hP:(s.size=0)∨∃c:Nat,0<s.size∧(∀h,(s[0]'h).toNat=c)∧((c:Int)==45)=false:=by
   by_cases h:s.size=0
   ·exact .inl h
   ·obtain ⟨a,ha,hb⟩:=head_at (s:=s) h
    refine .inr ⟨a.toNat,by omega,fun h=>by rw [hb],?_⟩;rw [beq_byte];rw [ha] at hmn;exact decide_eq_false hmn
  obtain ⟨F,hF⟩:∃F,formR s.data.toList=F:=⟨_,rfl⟩;have HF:=Lib.hid (fun w=>hF ▸ r4form_any s w hs);rw [hF] at hE;have HE:=Lib.hid hE;clear hmn hb hF hE
  have key:∀(n:Nat),F=some n→(604799<n∧offParseR s.data.toList=(0,3))∨(¬604799<n∧offParseR s.data.toList=((n:Int),0)):=by
   intro n hn;subst hn
   by_cases h:604799<n
   ·exact .inl ⟨h,by rw [HE.out];simp [endR,h]⟩
   ·exact .inr ⟨h,by rw [HE.out];simp [endR,h]⟩
  rcases hP with h0|⟨c,h0,g0,hc⟩
  ·have h0i:¬(0:Int)<(s.size:Int):=by omega
   have hd:decide (0<s.size)=false:=by simp [h0]
   clear h0
   cases F with
   | none =>
    rw [formV_none] at HF;clear key
    go_enter Tryz.func110,Tryz.ntmps110;go_wp2_with fail
    refine (HF.out _).mono ?_;rintro e w1 ⟨rfl,hb1⟩;go_wp2_with fail
    go_ret2
    exact ⟨by rw [HE.out];rfl,hb1⟩
   | some n =>
    rw [formV_some] at HF
    rcases key n rfl with ⟨hm,hE⟩|⟨hm,hE⟩
    all_goals
     have HE2:=Lib.hid hE;clear key HE hE
    ·have hmi:(604799:Int)<(n:Int):=by omega
     go_enter Tryz.func110,Tryz.ntmps110;go_wp2_with fail
     refine (HF.out _).mono ?_;rintro e w1 ⟨rfl,hb1⟩;go_wp2_with fail
     go_ret2
     exact ⟨by rw [HE2.out];rfl,hb1⟩
    ·have hmi:¬(604799:Int)<(n:Int):=by omega
     go_enter Tryz.func110,Tryz.ntmps110;go_wp2_with fail
     refine (HF.out _).mono ?_;rintro e w1 ⟨rfl,hb1⟩;go_wp2_with fail
     go_ret2
     exact ⟨by rw [HE2.out];rfl,hb1⟩
  ·have h0i:(0:Int)<(s.size:Int):=by omega
   have hd:decide (0<s.size)=true:=by simp [h0]
   clear h0
   cases F with
   | none =>
    rw [formV_none] at HF;clear key
    go_enter Tryz.func110,Tryz.ntmps110;go_wp2_with fail
    refine (HF.out _).mono ?_;rintro e w1 ⟨rfl,hb1⟩;go_wp2_with fail
    go_ret2
    exact ⟨by rw [HE.out];rfl,hb1⟩
   | some n =>
    rw [formV_some] at HF
    rcases key n rfl with ⟨hm,hE⟩|⟨hm,hE⟩
    all_goals
     have HE2:=Lib.hid hE;clear key HE hE
    ·have hmi:(604799:Int)<(n:Int):=by omega
     go_enter Tryz.func110,Tryz.ntmps110;go_wp2_with fail
     refine (HF.out _).mono ?_;rintro e w1 ⟨rfl,hb1⟩;go_wp2_with fail
     go_ret2
     exact ⟨by rw [HE2.out];rfl,hb1⟩
    ·have hmi:¬(604799:Int)<(n:Int):=by omega
     go_enter Tryz.func110,Tryz.ntmps110;go_wp2_with fail
     refine (HF.out _).mono ?_;rintro e w1 ⟨rfl,hb1⟩;go_wp2_with fail
     go_ret2
     exact ⟨by rw [HE2.out];rfl,hb1⟩
def baseZ (c:Nat):Int:=(baseOf c).getD (-1)
theorem r6base_any (c:Nat) (w:World) :
 Calls Tryz.prog 170 #[.int .u8 (c:Int)] w fun e w'=>e=.returned (.int .i64 (baseZ c))∧w'=w:=by
 by_cases h1:c=119
 ·subst h1
  go_enter Tryz.func170,Tryz.ntmps170
  go_wp2
  go_ret
  exact ⟨rfl,rfl⟩
 by_cases h2:c=115
 ·subst h2
  go_enter Tryz.func170,Tryz.ntmps170
  go_wp2
  go_ret
  exact ⟨rfl,rfl⟩
 by_cases h3:c=117
 ·subst h3
  go_enter Tryz.func170,Tryz.ntmps170
  go_wp2
  go_ret
  exact ⟨rfl,rfl⟩
 by_cases h4:c=103
 ·subst h4
  go_enter Tryz.func170,Tryz.ntmps170
  go_wp2
  go_ret
  exact ⟨rfl,rfl⟩
 by_cases h5:c=122
 ·subst h5
  go_enter Tryz.func170,Tryz.ntmps170
  go_wp2
  go_ret
  exact ⟨rfl,rfl⟩
 have HB:=Lib.hid (show baseZ c = -1 by unfold baseZ baseOf;rw [if_neg h1,if_neg h2,if_neg (by omega)];rfl);have e1:((c:Int)==119)=false:=by rw [beq_eq_false_iff_ne];omega
 have e2:((c:Int)==115)=false:=by rw [beq_eq_false_iff_ne];omega
 have e3:((c:Int)==117)=false:=by rw [beq_eq_false_iff_ne];omega
 have e4:((c:Int)==103)=false:=by rw [beq_eq_false_iff_ne];omega
 have e5:((c:Int)==122)=false:=by rw [beq_eq_false_iff_ne];omega
 clear h1 h2 h3 h4 h5
 go_enter Tryz.func170,Tryz.ntmps170;go_wp2_with fail
 go_ret
 exact ⟨by rw [HB.out];rfl,rfl⟩
theorem base_cases (c:Nat):(baseOf c=none∧baseZ c<0)∨(baseOf c=some (baseZ c)∧0≤baseZ c∧baseZ c≤2):=by
 unfold baseZ baseOf
 split
 ·exact .inr ⟨rfl,by decide,by decide⟩
 ·split
  ·exact .inr ⟨rfl,by decide,by decide⟩
  ·split
   ·exact .inr ⟨rfl,by decide,by decide⟩
   ·exact .inl ⟨rfl,by decide⟩
theorem last_byte {s:ByteArray} (h:0<s.size):s.data.toList.getLast? = some (s[s.size-1]'(by omega)):=by
 have hl:s.data.toList.length=s.size:=by simp
 rw [List.getLast?_eq_getElem?,List.getElem?_eq_getElem (by omega)];simp only [hl]
 rfl
theorem front_list {s:ByteArray} (h:0<s.size):(s.extract 0 (s.size-1)).data.toList=s.data.toList.dropLast:=by
 have hl:s.data.toList.length=s.size:=by simp
 rw [list_upto,List.dropLast_eq_take,hl]
set_option linter.unusedSimpArgs false in
theorem r6parse_end (s t:ByteArray) (b:Int) (w:World) (F:Int × Int) (hsz:s.size≤1048576)
 (HP:Hid (∀W,Calls Tryz.prog 110 #[.string t] W fun e w'=>e=.returned (.tuple #[.int .i64 F.1,.int .i64 F.2])∧Below W.heap.size W w'))
 (hs:(t=s∧b=0∧(s.size=0∨∃c:Nat,0<s.size∧(∀h,(s[s.size-1]'h).toNat=c)∧baseZ c<0))∨(∃c:Nat,0<s.size∧(∀h,(s[s.size-1]'h).toNat=c)∧baseZ c=b∧0≤b∧b≤2∧Hid (s.extract 0 (s.size-1)=t))) :
 Calls Tryz.prog 120 #[.string s] w fun e w'=>e=.returned (.tuple #[.agg #[.int .i64 (if F.2=0 then F.1 else 0),.int .i64 (if F.2=0 then b else 0)],.int .i64 F.2])∧Below w.heap.size w w':=by
 obtain ⟨x,er⟩:=F;simp only at HP ⊢
 by_cases her:er=0
 ·subst her
  simp only [if_true]
  rcases hs with ⟨rfl,rfl,h0|⟨c,hpos,g0,hc⟩⟩|⟨c,hpos,g0,hbz,hc0,hc2,HT⟩
  ·have hi0:¬(0:Int)<(t.size:Int):=by omega
   have hd:decide (0<t.size)=false:=by rw [h0];rfl
   clear h0
   go_enter Tryz.func120,Tryz.ntmps120;go_wp2_with fail
   refine (HP.out _).mono ?_;rintro e w9 ⟨rfl,hb1⟩;have b2:Blk w9 w.heap.size 59 #[.int .i64 0,.int .i64 0]:=((Blk.new' w _ _ rfl).alloc _).below hb1 (by simp;omega);have b4:Blk w9 (w.heap.size+1) 59 #[.int .i64 0,.int .i64 0]:=(Blk.new' (w.alloc _) _ _ (by simp)).below hb1 (by simp);have hBw:Below w.heap.size w w9:=(((Below.refl _ w).alloc (Nat.le_refl _) _).alloc (by simp) _).trans (hb1.mono (by simp;omega));have c20:=b2.cell_ (i:=0) rfl;have c21:=b2.cell_ (i:=1) rfl;have c40:=b4.cell_ (i:=0) rfl;have c41:=b4.cell_ (i:=1) rfl;have f20:=b2.frozen 0;have f21:=b2.frozen 1;have f40:=b4.frozen 0;have HBw:=Lib.hid hBw;clear b2 b4 hb1 hBw HP;go_wp2_with fail
   refine bodyPost_ret (by simp [results,Tryz.results120,go_sem,c20,c21,c40,c41];rfl) rfl ⟨?_,?_⟩
   ·rfl
   ·have hBv:=HBw.out;go_grown
  ·have hi0:(0:Int)<(t.size:Int):=by omega
   have hd:decide (0<t.size)=true:=by simp;omega
   have i1:IntKind.i64.wrap ((t.size:Int)-1)=(t.size:Int)-1:=IntWalk.i64_in _ (by omega);have i2:((t.size:Int)-1).toNat=t.size-1:=by omega
   have i3:(1:Int)≤(t.size:Int):=by omega
   have i5:t.size-1<t.size:=by omega
   have HBa:=Lib.hid (fun w=>r6base_any c w);clear hpos;generalize baseZ c=bz at *
   go_enter Tryz.func120,Tryz.ntmps120;go_wp2_with fail
   refine (HBa.out _).mono ?_;rintro e w1 ⟨rfl,rfl⟩;go_wp2_with fail
   refine (HP.out _).mono ?_;rintro e w9 ⟨rfl,hb1⟩;have b2:Blk w9 w.heap.size 59 #[.int .i64 0,.int .i64 0]:=((Blk.new' w _ _ rfl).alloc _).below hb1 (by simp;omega);have b4:Blk w9 (w.heap.size+1) 59 #[.int .i64 0,.int .i64 0]:=(Blk.new' (w.alloc _) _ _ (by simp)).below hb1 (by simp);have hBw:Below w.heap.size w w9:=(((Below.refl _ w).alloc (Nat.le_refl _) _).alloc (by simp) _).trans (hb1.mono (by simp;omega));have c20:=b2.cell_ (i:=0) rfl;have c21:=b2.cell_ (i:=1) rfl;have c40:=b4.cell_ (i:=0) rfl;have c41:=b4.cell_ (i:=1) rfl;have f20:=b2.frozen 0;have f21:=b2.frozen 1;have f40:=b4.frozen 0;have HBw:=Lib.hid hBw;clear b2 b4 hb1 hBw HP;go_wp2_with fail
   refine bodyPost_ret (by simp [results,Tryz.results120,go_sem,c20,c21,c40,c41];rfl) rfl ⟨?_,?_⟩
   ·rfl
   ·have hBv:=HBw.out;go_grown
  ·have hi0:(0:Int)<(s.size:Int):=by omega
   have hd:decide (0<s.size)=true:=by simp;omega
   have i1:IntKind.i64.wrap ((s.size:Int)-1)=(s.size:Int)-1:=IntWalk.i64_in _ (by omega);have i2:((s.size:Int)-1).toNat=s.size-1:=by omega
   have i3:(1:Int)≤(s.size:Int):=by omega
   have i5:s.size-1<s.size:=by omega
   have HBa:=Lib.hid (fun w=>r6base_any c w);clear hpos;rw [hbz] at HBa;clear hbz
   go_enter Tryz.func120,Tryz.ntmps120;go_wp2_with fail
   refine (HBa.out _).mono ?_;rintro e w1 ⟨rfl,rfl⟩;go_wp2_with fail
   refine (HBa.out _).mono ?_;rintro e w1 ⟨rfl,rfl⟩;go_wp2_with fail
   rw [HT.out];refine (HP.out _).mono ?_;rintro e w9 ⟨rfl,hb1⟩;have b2:Blk w9 w.heap.size 59 #[.int .i64 0,.int .i64 0]:=((Blk.new' w _ _ rfl).alloc _).below hb1 (by simp;omega);have b4:Blk w9 (w.heap.size+1) 59 #[.int .i64 0,.int .i64 b]:=(Blk.new' (w.alloc _) _ _ (by simp)).below hb1 (by simp);have hBw:Below w.heap.size w w9:=(((Below.refl _ w).alloc (Nat.le_refl _) _).alloc (by simp) _).trans (hb1.mono (by simp;omega));have c20:=b2.cell_ (i:=0) rfl;have c21:=b2.cell_ (i:=1) rfl;have c40:=b4.cell_ (i:=0) rfl;have c41:=b4.cell_ (i:=1) rfl;have f20:=b2.frozen 0;have f21:=b2.frozen 1;have f40:=b4.frozen 0;have HBw:=Lib.hid hBw;clear b2 b4 hb1 hBw HP;go_wp2_with fail
   refine bodyPost_ret (by simp [results,Tryz.results120,go_sem,c20,c21,c40,c41];rfl) rfl ⟨?_,?_⟩
   ·rfl
   ·have hBv:=HBw.out;go_grown
 ·have herb:(er != 0)=true:=by rw [bne_iff_ne];exact her
  rw [if_neg her,if_neg her];clear her
  rcases hs with ⟨rfl,rfl,h0|⟨c,hpos,g0,hc⟩⟩|⟨c,hpos,g0,hbz,hc0,hc2,HT⟩
  ·have hi0:¬(0:Int)<(t.size:Int):=by omega
   have hd:decide (0<t.size)=false:=by rw [h0];rfl
   clear h0
   go_enter Tryz.func120,Tryz.ntmps120;go_wp2_with fail
   refine (HP.out _).mono ?_;rintro e w9 ⟨rfl,hb1⟩;have b2:Blk w9 w.heap.size 59 #[.int .i64 0,.int .i64 0]:=((Blk.new' w _ _ rfl).alloc _).below hb1 (by simp;omega);have b4:Blk w9 (w.heap.size+1) 59 #[.int .i64 0,.int .i64 0]:=(Blk.new' (w.alloc _) _ _ (by simp)).below hb1 (by simp);have hBw:Below w.heap.size w w9:=(((Below.refl _ w).alloc (Nat.le_refl _) _).alloc (by simp) _).trans (hb1.mono (by simp;omega));have c20:=b2.cell_ (i:=0) rfl;have c21:=b2.cell_ (i:=1) rfl;have c40:=b4.cell_ (i:=0) rfl;have c41:=b4.cell_ (i:=1) rfl;have f20:=b2.frozen 0;have f21:=b2.frozen 1;have f40:=b4.frozen 0;have HBw:=Lib.hid hBw;clear b2 b4 hb1 hBw HP;go_wp2_with fail
   refine bodyPost_ret (by simp [results,Tryz.results120,go_sem,c20,c21,c40,c41];rfl) rfl ⟨?_,?_⟩
   ·rfl
   ·have hBv:=HBw.out;go_grown
  ·have hi0:(0:Int)<(t.size:Int):=by omega
   have hd:decide (0<t.size)=true:=by simp;omega
   have i1:IntKind.i64.wrap ((t.size:Int)-1)=(t.size:Int)-1:=IntWalk.i64_in _ (by omega);have i2:((t.size:Int)-1).toNat=t.size-1:=by omega
   have i3:(1:Int)≤(t.size:Int):=by omega
   have i5:t.size-1<t.size:=by omega
   have HBa:=Lib.hid (fun w=>r6base_any c w);clear hpos;generalize baseZ c=bz at *
   go_enter Tryz.func120,Tryz.ntmps120;go_wp2_with fail
   refine (HBa.out _).mono ?_;rintro e w1 ⟨rfl,rfl⟩;go_wp2_with fail
   refine (HP.out _).mono ?_;rintro e w9 ⟨rfl,hb1⟩;have b2:Blk w9 w.heap.size 59 #[.int .i64 0,.int .i64 0]:=((Blk.new' w _ _ rfl).alloc _).below hb1 (by simp;omega);have b4:Blk w9 (w.heap.size+1) 59 #[.int .i64 0,.int .i64 0]:=(Blk.new' (w.alloc _) _ _ (by simp)).below hb1 (by simp);have hBw:Below w.heap.size w w9:=(((Below.refl _ w).alloc (Nat.le_refl _) _).alloc (by simp) _).trans (hb1.mono (by simp;omega));have c20:=b2.cell_ (i:=0) rfl;have c21:=b2.cell_ (i:=1) rfl;have c40:=b4.cell_ (i:=0) rfl;have c41:=b4.cell_ (i:=1) rfl;have f20:=b2.frozen 0;have f21:=b2.frozen 1;have f40:=b4.frozen 0;have HBw:=Lib.hid hBw;clear b2 b4 hb1 hBw HP;go_wp2_with fail
   refine bodyPost_ret (by simp [results,Tryz.results120,go_sem,c20,c21,c40,c41];rfl) rfl ⟨?_,?_⟩
   ·rfl
   ·have hBv:=HBw.out;go_grown
  ·have hi0:(0:Int)<(s.size:Int):=by omega
   have hd:decide (0<s.size)=true:=by simp;omega
   have i1:IntKind.i64.wrap ((s.size:Int)-1)=(s.size:Int)-1:=IntWalk.i64_in _ (by omega);have i2:((s.size:Int)-1).toNat=s.size-1:=by omega
   have i3:(1:Int)≤(s.size:Int):=by omega
   have i5:s.size-1<s.size:=by omega
   have HBa:=Lib.hid (fun w=>r6base_any c w);clear hpos;rw [hbz] at HBa;clear hbz
   go_enter Tryz.func120,Tryz.ntmps120;go_wp2_with fail
   refine (HBa.out _).mono ?_;rintro e w1 ⟨rfl,rfl⟩;go_wp2_with fail
   refine (HBa.out _).mono ?_;rintro e w1 ⟨rfl,rfl⟩;go_wp2_with fail
   rw [HT.out];refine (HP.out _).mono ?_;rintro e w9 ⟨rfl,hb1⟩;have b2:Blk w9 w.heap.size 59 #[.int .i64 0,.int .i64 0]:=((Blk.new' w _ _ rfl).alloc _).below hb1 (by simp;omega);have b4:Blk w9 (w.heap.size+1) 59 #[.int .i64 0,.int .i64 b]:=(Blk.new' (w.alloc _) _ _ (by simp)).below hb1 (by simp);have hBw:Below w.heap.size w w9:=(((Below.refl _ w).alloc (Nat.le_refl _) _).alloc (by simp) _).trans (hb1.mono (by simp;omega));have c20:=b2.cell_ (i:=0) rfl;have c21:=b2.cell_ (i:=1) rfl;have c40:=b4.cell_ (i:=0) rfl;have c41:=b4.cell_ (i:=1) rfl;have f20:=b2.frozen 0;have f21:=b2.frozen 1;have f40:=b4.frozen 0;have HBw:=Lib.hid hBw;clear b2 b4 hb1 hBw HP;go_wp2_with fail
   refine bodyPost_ret (by simp [results,Tryz.results120,go_sem,c20,c21,c40,c41];rfl) rfl ⟨?_,?_⟩
   ·rfl
   ·have hBv:=HBw.out;go_grown
theorem r6parse_any (s:ByteArray) (w:World) (hs:s.size≤1048576) :
 Calls Tryz.prog 120 #[.string s] w fun e w'=>e=.returned (.tuple #[.agg #[.int .i64 (clockR s.data.toList).1.1,.int .i64 (clockR s.data.toList).1.2],.int .i64 (clockR s.data.toList).2])∧Below w.heap.size w w':=by
 have key:∀t:ByteArray,∀b:Int,cutR s.data.toList=(t.data.toList,b)→t.size≤1048576→((t=s∧b=0∧(s.size=0∨∃c:Nat,0<s.size∧(∀h,(s[s.size-1]'h).toNat=c)∧baseZ c<0))∨(∃c:Nat,0<s.size∧(∀h,(s[s.size-1]'h).toNat=c)∧baseZ c=b∧0≤b∧b≤2∧Hid (s.extract 0 (s.size-1)=t))) →
  Calls Tryz.prog 120 #[.string s] w fun e w'=>e=.returned (.tuple #[.agg #[.int .i64 (clockR s.data.toList).1.1,.int .i64 (clockR s.data.toList).1.2],.int .i64 (clockR s.data.toList).2])∧Below w.heap.size w w':=by
  intro t b hcut ht hsh;have h:=r6parse_end s t b w (offParseR t.data.toList) hs (Lib.hid fun W=>r4parse_any t W ht) hsh
  have e1:clockR s.data.toList=(((if (offParseR t.data.toList).2=0 then (offParseR t.data.toList).1 else 0),(if (offParseR t.data.toList).2=0 then b else 0)),(offParseR t.data.toList).2):=by
   unfold clockR;rw [hcut]
   split
   ·rename_i h0
    have h0':(offParseR t.data.toList).2=0:=h0;rw [h0']
   ·rename_i h0
    have h0':¬(offParseR t.data.toList).2=0:=h0
    rfl
  rw [e1];exact h
 by_cases hz:s.size=0
 ·have hn:s.data.toList=[]:=List.eq_nil_of_length_eq_zero (by simpa using hz)
  exact key s 0 (by rw [hn];rfl) hs (.inl ⟨rfl,rfl,.inl hz⟩)
 ·have hpos:0<s.size:=by omega
  have hlast:=last_byte hpos
  rcases base_cases (s[s.size-1]'(by omega)).toNat with ⟨h1,h2⟩|⟨h1,h2,h3⟩
  ·exact key s 0 (by rw [cutR,hlast];simp only [Option.bind_some,h1]) hs (.inl ⟨rfl,rfl,.inr ⟨_,hpos,fun _=>rfl,h2⟩⟩)
  ·refine key (s.extract 0 (s.size-1)) (baseZ (s[s.size-1]'(by omega)).toNat) (by rw [cutR,hlast,front_list hpos];simp only [Option.bind_some,h1]) (by simp;omega) (.inr ⟨_,hpos,fun _=>rfl,rfl,h2,h3,Lib.hid rfl⟩)
end Go.Proofs.YtciclddfhohieaaGreatDoor
