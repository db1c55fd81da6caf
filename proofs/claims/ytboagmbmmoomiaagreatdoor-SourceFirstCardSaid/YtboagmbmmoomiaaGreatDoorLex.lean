/-
  Layer 5: lexeme.Lines and lexeme.Fields answer as the plain functions nlR and fieldsR do.
  Layer 5: lexeme.Fields answers as the plain function fieldsR does.
  linkline.Link, linkline.Shift and word.Line answer as the plain functions linkR, shiftR and wordR do.
-/
import Derived.Test.YtboagmbmmoomiaaGreatDoorEraParse
import Derived.Test.YtboagmbmmoomiaaGreatDoorSrcPlain
import Derived.Test.YtboagmbmmoomiaaGreatDoorPCopies
import Derived.Test.YtboagmbmmoomiaaGreatDoorRelRows
import Derived.Test.YtboagmbmmoomiaaGreatDoorShelf4
import Derived.Laws.IdiomStrings
import Derived.Shelf.Bytes.SlSmallAll
import Derived.Test.YtboagmbmmoomiaaGreatDoorSrcOwn
import Derived.Outline
import Derived.WalkMore
import Derived.Test.YtboagmbmmoomiaaGreatDoorEraLine2
set_option linter.unusedVariables false
set_option linter.unusedSimpArgs false
set_option maxRecDepth 100000
set_option maxHeartbeats 4000000
namespace Go.Proofs.YtboagmbmmoomiaaGreatDoor
open Go.Lib (hid)
open Go.RowKit Go.Shelf
theorem index_at10:∀(a r:List UInt8),(10:UInt8) ∉ a→Lib.index (a++10::r) [10]=(a.length:Int)
 | [],r,_=>by
  show Lib.index (10::r) [10]=0
  unfold Lib.index;rw [if_pos (by simp [List.isPrefixOf])]
 | c::a,r,h=>by
  have ih:=index_at10 a r fun hm=>h (List.mem_cons_of_mem _ hm)
  have h1:c≠10:=fun e=>h (e ▸ List.mem_cons_self ..)
  show Lib.index (c::(a++10::r)) [10]=_
  unfold Lib.index;rw [if_neg (by simp [List.isPrefixOf,Ne.symm h1]),ih,if_neg (by simp<;>omega)]
  simp
theorem cut10 (s:List UInt8) (h:(10:UInt8) ∈ s):∃a b,s=a++10::b∧(10:UInt8) ∉ a:=by
 induction s with
 | nil=>cases h
 | cons c s ih =>
  by_cases hc:c=10
  ·exact ⟨[],s,by rw [hc];rfl,by simp⟩
  ·obtain ⟨a,b,h1,h2⟩:=ih (by rcases List.mem_cons.1 h with h|h;exact absurd h.symm hc;exact h)
   exact ⟨c::a,b,by rw [h1];rfl,fun hm=>by rcases List.mem_cons.1 hm with hm|hm;exact hc hm.symm;exact h2 hm⟩
theorem split_nl:∀(n:Nat) (s:List UInt8),s.length≤n→Lib.splitK [10] 0 (Lib.count s [10]) s=nlParts s
 | n,s,hn=>by
  by_cases hm:(10:UInt8) ∈ s
  ·obtain ⟨a,b,rfl,ha⟩:=cut10 s hm
   have hc:Lib.count (a++10::b) [10]=Lib.count b [10]+1:=by
    rw [Lib.count_one,Lib.count_one,List.count_append,List.count_cons_self,List.count_eq_zero.2 ha]
    omega
   rw [hc];unfold Lib.splitK;rw [index_at10 a b ha,if_neg (by simp<;>omega),nlParts_app ha]
   cases n with
   | zero=>simp at hn
   | succ n =>
    have ih:=split_nl n b (by simp at hn;omega)
    simp [ih]
  ·have hc:Lib.count s [10]=0:=by rw [Lib.count_one];exact List.count_eq_zero.2 hm
   rw [hc,nlParts_one hm]
   rfl
theorem nlParts_le (l:List UInt8):∀x ∈ nlParts l,x.length≤l.length:=fun x hx=>by
 rw [←split_nl l.length l (Nat.le_refl _)] at hx;exact splitK_len [10] l _ l x hx
theorem trimNl_len (l:List UInt8):(trimNl l).length≤l.length:=by
 unfold trimNl
 split
 ·simp
 ·exact Nat.le_refl _
theorem trim_nl (l:List UInt8):Lib.trimSuffix l [10]=trimNl l:=by
 unfold Lib.trimSuffix trimNl
 rcases List.eq_nil_or_concat l with rfl|⟨a,c,rfl⟩
 ·rfl
 ·by_cases hc:c=10
  ·subst hc
   simp [Lib.hasSuffix,List.isSuffixOf,List.isPrefixOf,List.dropLast_append_of_ne_nil]
  ·simp [Lib.hasSuffix,List.isSuffixOf,List.isPrefixOf,hc,Ne.symm hc]
theorem nsplit_any (s:ByteArray) (w:World) (hM:MaxL w) (hs:s.size≤1048576) :
 Calls Tryz.prog 76 #[.string s,.string ⟨#[10]⟩] w fun e w'=>e=.returned (.slice (some ⟨w.heap.size,0,none⟩) (nlParts s.data.toList).length (nlParts s.data.toList).length)∧w.alloc (.cells (strV (nlParts s.data.toList)).toArray 9)=w':=by
 obtain ⟨m,hm⟩:=hM;have h:=Any.strings_Split { Tryz.laysM146 with } Tryz.laysM146.i9 s ⟨#[10]⟩ m w (by omega) hm (by decide);have h2:=Lib.splitB_data ⟨#[10]⟩ 0 (Lib.countB s ⟨#[10]⟩) s;have hn:=split_nl _ s.data.toList (Nat.le_refl _)
 have e:(Lib.splitB ⟨#[10]⟩ 0 (Lib.countB s ⟨#[10]⟩) s).map Value.string=strV (nlParts s.data.toList):=by
  unfold strV;rw [←hn,show Lib.count s.data.toList [10]=Lib.countB s ⟨#[10]⟩ from rfl,show ([10]:List UInt8)=(⟨#[10]⟩:ByteArray).data.toList from rfl,←h2,List.map_map]
  apply List.map_congr_left
  intro b _
  simp
 have e2:Lib.countB s ⟨#[10]⟩+1=(nlParts s.data.toList).length:=by
  rw [nlParts_len]
  show Lib.count s.data.toList [10]+1=_
  rw [Lib.count_one]
  rfl
 rw [e,e2] at h;exact h.mono fun e w' ⟨he,hw⟩=>⟨he,hw.symm⟩
def longI (l:List (List UInt8)):Int:=match longAt 1 l with
 | some k=>(k:Int)-1
 | none => -1
theorem longAt_take (l:List (List UInt8)):∀(k:Nat),(∀j x,j<k→l[j]? = some x→x.length≤300)→k≤l.length→longAt 1 l=longAt (k+1) (l.drop k):=fun k h hk=>by
 have h2:=longAt_app 1 (l.take k) (l.drop k) fun x hx=>by
  obtain ⟨j,hj⟩:=List.mem_iff_getElem?.1 hx;have hlt:=(List.getElem?_eq_some_iff.1 hj).1;rw [List.length_take] at hlt;rw [List.getElem?_take_of_lt (by omega)] at hj;have:=h j x (by omega) hj
  omega
 rw [List.take_append_drop,List.length_take,Nat.min_eq_left hk,Nat.add_comm] at h2;exact h2
theorem lexlong_any (s:ByteArray) (w:World) (hs:s.size≤1048576):Calls Tryz.prog 79 #[.string s] w fun e w'=>e=.returned (.bool (decide (300<s.size)))∧w=w':=by
 by_cases h:300<s.size
 ·have hd:decide ((300:Int)<(s.size:Int))=true:=by simp;omega
  rw [show decide (300<s.size)=true from decide_eq_true h]
  go_enter Tryz.func79,Tryz.ntmps79;go_wp2_with fail
  go_ret
  exact ⟨rfl,rfl⟩
 ·have hd:decide ((300:Int)<(s.size:Int))=false:=by simp;omega
  rw [show decide (300<s.size)=false from decide_eq_false h]
  go_enter Tryz.func79,Tryz.ntmps79;go_wp2_with fail
  go_ret
  exact ⟨rfl,rfl⟩
theorem lexidx_any (b c:Nat) (ls:List (List UInt8)) (w:World) (hr:StrRow w b 0 ls) (hl:ls.length≤1048577) (hz:∀l ∈ ls,l.length≤1048576) :
 Calls Tryz.prog 78 #[.slice (some ⟨b,0,none⟩) ls.length c,.func (.func 79) #[] #[]] w fun e w'=>e=.returned (.int .i64 (longI ls))∧w=w':=by
 have HR:=hid hr;have HZ:=hid hz;clear hr hz
 go_enter Tryz.func78,Tryz.ntmps78;go_wp2_with fail
 go_loopw [5,8] (fun _ i wr=>∃k:Nat,k≤ls.length∧i=.int .i64 (k:Int)∧Hid (∀j x,j<k→ls[j]? = some x→x.length≤300)∧wr=w) (fun _ i _=>ls.length-(intOf i).toNat)
 case atStart=>exact ⟨0,Nat.zero_le _,rfl,hid (fun j x h=>absurd h (Nat.not_lt_zero _)),rfl⟩
 case round =>
  obtain ⟨k,hk,rfl,HA,rfl⟩:=hrel
  by_cases hlt:k<ls.length
  ·obtain ⟨l,hx⟩:∃l,ls[k]? = some l:=⟨_,List.getElem?_eq_getElem hlt⟩
   have hd:decide ((k:Int)<(ls.length:Int))=true:=by simp;omega
   have ck:wr.cell? ⟨b,k,none⟩=some (.string ⟨l.toArray⟩):=by have:=HR.out.at_ k l hx;rwa [Nat.zero_add] at this
   have hsz:(⟨l.toArray⟩:ByteArray).size≤1048576:=HZ.out l (List.mem_of_getElem? hx);have HN:=hid (lexlong_any ⟨l.toArray⟩ wr hsz);have e1:(⟨l.toArray⟩:ByteArray).size=l.length:=by simp [ByteArray.size]
   rw [e1] at HN;have HX:=hid hx;clear hx hsz e1
   by_cases hgt:300<l.length
   ·rw [show decide (300<l.length)=true from decide_eq_true hgt] at HN
    have HI:=hid (show (k:Int)=longI ls from by
     unfold longI;rw [longAt_take ls k HA.out hk,List.drop_eq_getElem_cons hlt,longAt,if_pos (by have:=(List.getElem?_eq_some_iff.1 HX.out).2;rw [this];exact hgt)]
     simp)
    clear hgt HA HX;go_wp2_with fail
    refine HN.out.mono ?_;rintro e w1 ⟨rfl,rfl⟩;go_wp2_with fail
    go_ret
    exact ⟨by rw [HI.out];rfl,rfl⟩
   ·rw [show decide (300<l.length)=false from decide_eq_false hgt] at HN
    have HB:=hid (show ∀j x,j<k+1→ls[j]? = some x→x.length≤300 from fun j x hj hx=>by
     rcases Nat.lt_or_ge j k with h1|h1
     ·exact HA.out j x h1 hx
     ·obtain rfl:j=k:=by omega
      rw [HX.out] at hx;obtain rfl:=Option.some.inj hx
      omega)
    clear hgt HA HX;go_wp2_with fail
    refine HN.out.mono ?_;rintro e w1 ⟨rfl,rfl⟩;go_wp2_with fail
    go_roundw
    case rel=>exact ⟨k+1,by omega,by go_num,HB,trivial⟩
    case measure=>simp [intOf];omega
  ·obtain rfl:k=ls.length:=by omega
   have hd:decide ((ls.length:Int)<(ls.length:Int))=false:=by simp
   have HT:=hid (show longI ls = -1 from by
    unfold longI;rw [longAt_take ls ls.length HA.out (Nat.le_refl _),List.drop_length]
    rfl)
   clear HA hlt hk;go_wp2_with fail
   go_ret
   exact ⟨by rw [HT.out];rfl,rfl⟩
def LinesPost (s:List UInt8) (w:World) (e:Ending) (w':World):Prop :=
 ((nlR s).2.2=0∧(∃g,e=.returned (.tuple #[.slice (some ⟨g,0,none⟩) (nlR s).1.length (nlR s).1.length,.int .i64 0,.int .i64 0])∧StrRow w' g 0 (nlR s).1))∨((nlR s).2.2≠0∧e=.returned (.tuple #[.slice none 0 0,.int .i64 (nlR s).2.1,.int .i64 (nlR s).2.2]))
theorem lines_any (s:ByteArray) (w:World) (hM:MaxL w) (hs:s.size≤1048576) :
 Calls Tryz.prog 43 #[.string s] w fun e w'=>LinesPost s.data.toList w e w'∧Below w.heap.size w w':=by
 have HT:=hid (show Calls Tryz.prog 77 #[.string s,.string ⟨#[10]⟩] w fun e w'=>e=.returned (.string ⟨(trimNl s.data.toList).toArray⟩)∧w=w' from by
  have h:=Any.strings_TrimSuffix Tryz.lays102 s ⟨#[10]⟩ w (by omega);rw [show (⟨#[10]⟩:ByteArray).data.toList=[10] from rfl,trim_nl] at h;exact h.mono fun e w' ⟨he,hw⟩=>⟨he,hw.symm⟩)
 have htl:=trimNl_len s.data.toList;have hsl:s.data.toList.length=s.size:=by simp
 have HS:=hid (nsplit_any ⟨(trimNl s.data.toList).toArray⟩ w hM (by simp [ByteArray.size];omega));rw [show (⟨(trimNl s.data.toList).toArray⟩:ByteArray).data.toList=trimNl s.data.toList from by simp] at HS
 have hz:∀x ∈ nlParts (trimNl s.data.toList),x.length≤1048576:=fun x hx=>by
  have:=nlParts_le _ x hx
  omega
 have hcnt:(nlParts (trimNl s.data.toList)).length≤1048577:=by
  rw [nlParts_len];have:nlCount (trimNl s.data.toList)≤(trimNl s.data.toList).length:=List.count_le_length
  omega
 have HI:=hid (lexidx_any w.heap.size (nlParts (trimNl s.data.toList)).length (nlParts (trimNl s.data.toList)) (w.alloc (.cells (strV (nlParts (trimNl s.data.toList))).toArray 9)) ⟨by simp,fun j l hl=>by
  rw [Nat.zero_add];refine (Blk.new' w 9 (strV (nlParts (trimNl s.data.toList))).toArray rfl).cell_ ?_;rw [List.getElem?_toArray,strV,List.getElem?_map,hl];rfl⟩ hcnt hz)
 have HB:=hid (show Below w.heap.size w (w.alloc (.cells (strV (nlParts (trimNl s.data.toList))).toArray 9)) from (Below.refl _ _).alloc (Nat.le_refl _) _)
 have HROW:=hid (show StrRow (w.alloc (.cells (strV (nlParts (trimNl s.data.toList))).toArray 9)) w.heap.size 0 (nlParts (trimNl s.data.toList)) from ⟨by simp,fun j l hl=>by
  rw [Nat.zero_add];refine (Blk.new' w 9 (strV (nlParts (trimNl s.data.toList))).toArray rfl).cell_ ?_;rw [List.getElem?_toArray,strV,List.getElem?_map,hl];rfl⟩)
 have HE:Hid (nlR s.data.toList=match longAt 1 (nlParts (trimNl s.data.toList)) with
  | some k=>([],(k:Int),6)
  | none=>(nlParts (trimNl s.data.toList),0,0)):=hid (by unfold nlR;rw [if_neg (by omega)];cases longAt 1 (nlParts (trimNl s.data.toList))<;>rfl)
 have hg:decide ((8388608:Int)<(s.size:Int))=false:=by simp;omega
 clear htl hsl hz hM;unfold longI at HI;generalize (⟨(trimNl s.data.toList).toArray⟩:ByteArray)=tb at *;generalize hls:nlParts (trimNl s.data.toList)=ls at *;clear hls;generalize w.alloc (.cells (strV ls).toArray 9)=w2 at *;generalize w.heap.size=g0 at *
 cases hlg:longAt 1 ls with
 | some k =>
  rw [hlg] at HI HE;have hk:=longAt_le _ _ _ hlg;have h0:decide ((0:Int)≤(k:Int)-1)=true:=by simp;omega
  have h1:((0:Int)≤(k:Int)-1):=by omega
  have h2:(k:Int)≤1048578:=by omega
  clear hlg
  go_enter Tryz.func43,Tryz.ntmps43;go_wp2_with fail
  refine HT.out.mono ?_;rintro e w1 ⟨rfl,rfl⟩;go_wp2_with fail
  refine HS.out.mono ?_;rintro e w3 ⟨rfl,rfl⟩;go_wp2_with fail
  refine HI.out.mono ?_;rintro e w3 ⟨rfl,rfl⟩;go_wp2_with fail
  go_ret3
  refine ⟨.inr ?_,HB.out⟩;rw [HE.out];exact ⟨by simp,by simp⟩
 | none =>
  rw [hlg] at HI HE;clear hlg
  go_enter Tryz.func43,Tryz.ntmps43;go_wp2_with fail
  refine HT.out.mono ?_;rintro e w1 ⟨rfl,rfl⟩;go_wp2_with fail
  refine HS.out.mono ?_;rintro e w3 ⟨rfl,rfl⟩;go_wp2_with fail
  refine HI.out.mono ?_;rintro e w3 ⟨rfl,rfl⟩;go_wp2_with fail
  go_ret3
  refine ⟨.inl ?_,HB.out⟩;rw [HE.out];exact ⟨rfl,_,rfl,HROW.out⟩
def prI (c:UInt8):Bool:=prC c
theorem printable_any (c:UInt8) (w:World):Calls Tryz.prog 114 #[.int .u8 (c.toNat:Int)] w fun e w'=>e=.returned (.bool (prI c))∧w=w':=by
 by_cases h1:32≤c.toNat
 ·by_cases h2:c.toNat≤126
  ·have hr:prI c=true:=by unfold prI prC;simp [h1,h2]
   rw [hr];have d1:decide ((32:Int)≤(c.toNat:Int))=true:=by simp;omega
   have d2:decide ((c.toNat:Int)≤126)=true:=by simp;omega
   go_enter Tryz.func114,Tryz.ntmps114;go_wp2_with fail
   go_ret
   exact ⟨rfl,rfl⟩
  ·have hr:prI c=false:=by unfold prI prC;simp [h2]
   rw [hr];have d1:decide ((32:Int)≤(c.toNat:Int))=true:=by simp;omega
   have d2:decide ((c.toNat:Int)≤126)=false:=by simp;omega
   go_enter Tryz.func114,Tryz.ntmps114;go_wp2_with fail
   go_ret
   exact ⟨rfl,rfl⟩
 ·have hr:prI c=false:=by unfold prI prC;simp [h1]
  rw [hr];have d1:decide ((32:Int)≤(c.toNat:Int))=false:=by simp;omega
  go_enter Tryz.func114,Tryz.ntmps114;go_wp2_with fail
  go_ret
  exact ⟨rfl,rfl⟩
def encB (c:UInt8):Array Value:=#[.int .u8 (c.toNat:Int)]
theorem encB_list (l:List UInt8):flatC encB l=l.map fun c=>Value.int .u8 (c.toNat:Int):=by
 induction l with
 | nil=>rfl
 | cons c l ih =>
  simp [flatC,encB] at ih ⊢
  exact ih
theorem conv_own {B n:Nat} {l:List UInt8} {v:Value} {W:World} (h:W.ownsRow B 5 1 v n (flatC encB l)) (hn:n=l.length):(convert 22 9 v).run Tryz.prog W=.ok (.string ⟨l.toArray⟩) W:=by
 subst hn
 rcases h.2 with ⟨rfl,h0⟩|⟨g,cap,cur,rfl,_,hh,hnc,hcm,hcs,ht⟩
 ·obtain rfl:l=[]:=List.eq_nil_of_length_eq_zero h0
  exact run_convert_bytes_zero W 22 5 Tryz.underlying22 Tryz.underlying5 none 0 9 Tryz.underlying9
 ·refine Go.run_convert_bytes_back W 22 9 5 ⟨g,0,none⟩ cap l Tryz.underlying22 Tryz.underlying5 Tryz.underlying9 fun j hj=>?_
  rw [Addr.add_lit,Nat.zero_add];refine (show Blk W g 5 cur from hh).cell_ ?_
  have h2:(cur.toList.take (l.length*1))[j]? = some (.int .u8 (l[j].toNat:Int)):=by
   rw [ht,encB_list]
   simp [hj]
  rw [List.getElem?_take_of_lt (by omega)] at h2
  simpa using h2
structure LF (w:World) (l:List UInt8) (k:Nat) (out:List (List UInt8)) (f:List UInt8) (ib qb:Bool) (o fv:Value) (W:World):Prop where
 outs:W.ownsRow w.heap.size 9 1 o out.length (flatC encS out)
 flds:W.ownsRow w.heap.size 5 1 fv f.length (flatC encB f)
 bel:Below w.heap.size w W
 now:fldGo (l.drop k) out f ib qb=fldGo l [] [] false false
 ol:out.length≤k
 fl:f.length≤k
theorem drop_at_ {l:List UInt8} {k:Nat} (hk:k<l.length):l.drop k=l[k]::l.drop (k+1):=List.drop_eq_getElem_cons hk
def FieldsPost (s:List UInt8) (w:World) (e:Ending) (w':World):Prop :=
 ((fieldsR s).2=0∧∃v,e=.returned (.tuple #[v,.int .i64 0])∧w'.ownsRow w.heap.size 9 1 v (fieldsR s).1.length (flatC encS (fieldsR s).1))∨((fieldsR s).2≠0∧e=.returned (.tuple #[.slice none 0 0,.int .i64 (fieldsR s).2]))
section
variable {w W W':World} {l:List UInt8} {k:Nat} {out:List (List UInt8)} {f:List UInt8} {ib qb ib' qb':Bool} {o fv v:Value} {c:UInt8} {t:List UInt8}
theorem LF.stay (h:LF w l k out f ib qb o fv W) (nx:fldGo (l.drop (k+1)) out f ib' qb'=fldGo (l.drop k) out f ib qb):LF w l (k+1) out f ib' qb' o fv W:=⟨h.outs,h.flds,h.bel,nx.trans h.now,Nat.le_succ_of_le h.ol,Nat.le_succ_of_le h.fl⟩
theorem LF.push {O:Obj} (h:LF w l k out f ib qb o fv W) (ho:W'.ownsRow w.heap.size 5 1 v (f.length+1) (flatC encB f++[.int .u8 (c.toNat:Int)])) (hg:(W.alloc O).grownBy W' fv.ownBlock) (nx:fldGo (l.drop (k+1)) out (f++[c]) ib' qb'=fldGo (l.drop k) out f ib qb):LF w l (k+1) out (f++[c]) ib' qb' o v W':=by
 have h1:=h.outs.alloc O;have h2:=h.flds.alloc O;refine ⟨h1.kept hg (own_apart h1 h2 (by decide)),?_,(h.bel.alloc h.bel.size O).grown hg (by have:=h.bel.size;simp;omega) (own_base h2),nx.trans h.now,Nat.le_succ_of_le h.ol,by have:=h.fl;simp;omega⟩;rw [List.length_append,flatC_snoc];exact ho
theorem LF.close {O:Obj} (h:LF w l k out f ib qb o fv W) (ho:W'.ownsRow w.heap.size 9 1 v (out.length+1) (flatC encS out++[.string ⟨f.toArray⟩])) (hg:(W.alloc O).grownBy W' o.ownBlock) (nx:fldGo (l.drop (k+1)) (out++[f]) [] false false=fldGo (l.drop k) out f ib qb):LF w l (k+1) (out++[f]) [] false false v (.slice none 0 0) W':=by
 have h1:=h.outs.alloc O;refine ⟨?_,World.ownsRow_nil ..,(h.bel.alloc h.bel.size O).grown hg (by have:=h.bel.size;simp;omega) (own_base h1),nx.trans h.now,by have:=h.ol;simp;omega,Nat.zero_le _⟩;rw [List.length_append,flatC_snoc];exact ho
end
theorem LF.start (w:World) (l:List UInt8):LF w l 0 [] [] false false (.slice none 0 0) (.slice none 0 0) w:=⟨World.ownsRow_nil ..,World.ownsRow_nil ..,Below.refl _ _,rfl,Nat.le_refl _,Nat.le_refl _⟩
theorem fldA1 (t:List UInt8) (out:List (List UInt8)) (f:List UInt8) (i:Bool):fldGo t out f i false=fldGo (34::t) out f i true:=rfl
theorem fldA2 {c:UInt8} (h:c≠34) (hp:prC c=true) (t:List UInt8) (out:List (List UInt8)) (f:List UInt8) (i:Bool):fldGo t out (f++[c]) i true=fldGo (c::t) out f i true:=by simp [fldGo,h,hp]
theorem fldA3 {c:UInt8} (h:c≠34) (hp:prC c=false) (t:List UInt8) (out:List (List UInt8)) (f:List UInt8) (i:Bool):fldGo (c::t) out f i true=([],5):=by simp [fldGo,h,hp]
theorem fldB1 (t:List UInt8) (out:List (List UInt8)) (f:List UInt8) (i:Bool):fldGo t out f true true=fldGo (34::t) out f i false:=rfl
theorem fldB2 (t:List UInt8) (out:List (List UInt8)) (f:List UInt8) (i:Bool):fldGo (35::t) out f i false=(if i then out++[f] else out,0):=rfl
theorem fldB3 {c:UInt8} (h:c=9∨c=32) (t:List UInt8) (out:List (List UInt8)) (f:List UInt8):fldGo t (out++[f]) [] false false=fldGo (c::t) out f true false:=by rcases h with rfl|rfl<;>rfl
theorem fldB4 {c:UInt8} (h:c=9∨c=32) (t:List UInt8) (out:List (List UInt8)) (f:List UInt8):fldGo t out f false false=fldGo (c::t) out f false false:=by rcases h with rfl|rfl<;>rfl
theorem fldB5 {c:UInt8} (h1:c≠34) (h2:c≠35) (h3:c≠9) (h4:c≠32) (hp:prC c=true) (t:List UInt8) (out:List (List UInt8)) (f:List UInt8) (i:Bool):fldGo t out (f++[c]) true false=fldGo (c::t) out f i false:=by simp [fldGo,h1,h2,h3,h4,hp]
theorem fldB6 {c:UInt8} (h1:c≠34) (h2:c≠35) (h3:c≠9) (h4:c≠32) (hp:prC c=false) (t:List UInt8) (out:List (List UInt8)) (f:List UInt8) (i:Bool):fldGo (c::t) out f i false=([],5):=by simp [fldGo,h1,h2,h3,h4,hp]
theorem c_no {c d:UInt8} (h:c≠d):((c.toNat:Int)==(d.toNat:Int))=false:=by
 rw [beq_eq_false_iff_ne];intro hh;exact h (UInt8.toNat_inj.1 (by omega))
theorem FieldsPost.bad {s:List UInt8} {w w':World} (h:fieldsR s=([],5)):FieldsPost s w (.returned (.tuple #[.slice none 0 0,.int .i64 5])) w':=.inr ⟨by rw [h];decide,by rw [h]⟩
theorem FieldsPost.good {s:List UInt8} {w w':World} {v:Value} {out:List (List UInt8)} (h:fieldsR s=(out,0)) (ho:w'.ownsRow w.heap.size 9 1 v out.length (flatC encS out)):FieldsPost s w (.returned (.tuple #[v,.int .i64 0])) w':=.inl ⟨by rw [h],v,rfl,by rw [h];exact ho⟩
theorem lex_post {s:ByteArray} (hs:¬300<s.size):fieldsR s.data.toList=fldGo s.data.toList [] [] false false:=by
 unfold fieldsR;rw [if_neg (by simpa using hs)]
theorem lexfields_any (s:ByteArray) (w:World) (hs:s.size≤1048576) :
 Calls Tryz.prog 80 #[.string s] w fun e w'=>FieldsPost s.data.toList w e w'∧Below w.heap.size w w':=by
 by_cases h300:300<s.size
 ·have hd:decide ((300:Int)<(s.size:Int))=true:=by simp;omega
  have HF:=hid (show fieldsR s.data.toList=([],6) from by unfold fieldsR;rw [if_pos (by simpa using h300)])
  go_enter Tryz.func80,Tryz.ntmps80;go_wp2_with fail
  go_step3
  go_wp2_with fail
  rw [Exit.noGoto_ret];go_ret2
  exact ⟨.inr ⟨by rw [HF.out];decide,by rw [HF.out];rfl⟩,Below.refl _ _⟩
 ·have hd:decide ((300:Int)<(s.size:Int))=false:=by simp;omega
  have HLP:=hid (lex_post h300);have hs3:s.size≤300:=by omega
  obtain ⟨ib8,zb8,hib8,hzb8,hszb8,hbyb8,hzcb8⟩:=info_st (P:=Tryz.prog) (e:=5) (k:=1) (by kernel_rfl);obtain ⟨ist,zst,hist,hzst,hszst,hbyst,hzcst⟩:=info_st (P:=Tryz.prog) (e:=9) (k:=1) (by kernel_rfl);clear hs h300
  go_enter Tryz.func80,Tryz.ntmps80;go_wp2_with fail
  go_step3
  go_wp2_with fail
  go_step3
  go_wp2_with fail
  go_loopw [4,5,6,7,15] (fun ov fv iv qv nv wr=>∃(k:Nat) (out:List (List UInt8)) (f:List UInt8) (ib qb:Bool),k≤s.size∧nv=.int .i64 (k:Int)∧iv=.bool ib∧qv=.bool qb∧Hid (LF w s.data.toList k out f ib qb ov fv wr)) (fun _ _ _ _ nv _=>s.size-(intOf nv).toNat)
  case atStart=>exact ⟨0,[],[],false,false,Nat.zero_le _,rfl,rfl,rfl,hid (LF.start _ _)⟩
  case round =>
   obtain ⟨k,out,f,ib,qb,hk,rfl,rfl,rfl,HL⟩:=hrel;have hol:out.length≤300:=by have:=HL.out.ol;omega
   have hfl:f.length≤300:=by have:=HL.out.fl;omega
   by_cases hlt:k<s.size
   ·have hkl:k<s.data.toList.length:=by simpa using hlt
    obtain ⟨c,hc⟩:∃c:UInt8,c=s[k]'hlt:=⟨_,rfl⟩;have g0:∀h,(s[k]'h)=c:=fun _=>hc.symm
    have HD:=hid (show s.data.toList.drop k=c::s.data.toList.drop (k+1) from by rw [drop_at_ hkl,hc];rfl);have HP:=hid (printable_any c);have hd2:decide (k<s.size)=true:=by simp [hlt]
    have hd3:decide ((k:Int)<(s.size:Int))=true:=by simp;omega
    have HNW:=hid HL.out.now;clear hc hkl;unfold prI at HP
    cases qb with
    | true =>
     by_cases h34:c=34
     ·have q34:((c.toNat:Int)==34)=true:=by subst h34;rfl
      subst h34;have HL2:=hid (HL.out.stay (ib':=ib) (qb':=false) (by rw [HD.out];exact fldA1 _ _ _ _));go_wp2_with (first|(go_at_call 114;refine (HP.out _).mono ?_;rintro e w1 ⟨rfl,rfl⟩)|fail)
      go_roundw
      case rel=>exact ⟨k+1,out,f,ib,false,by omega,by go_num,rfl,rfl,HL2⟩
      case measure=>simp [intOf];omega
     ·have q34:((c.toNat:Int)==34)=false:=c_no (d:=34) h34
      cases hp:prC c with
      | true =>
       have NX:=hid (fldA2 h34 hp (s.data.toList.drop (k+1)) out f ib);rw [hp] at HP;clear hp h34;go_wp2_with (first|(go_at_call 114;refine (HP.out _).mono ?_;rintro e w1 ⟨rfl,rfl⟩)|(at_builtin;refine wpList_append_any _ rfl (.tmp 50) (.tmp 52) 22 rfl w.heap.size 5 ib8 zb8 1 ib8.bytes Tryz.underlying22 hib8 hzb8 hszb8 rfl hzcb8 (by decide) _ _ _ rfl (HL.out.flds.alloc _) (wr.heap.size+1) (some ⟨wr.heap.size,0,none⟩) 1 1 [.int .u8 (c.toNat:Int)] rfl ?c0 ?c1 ?c2 ?c3 ?c4 ?_)|fail)
       case c0=>exact ⟨rfl,fun _=>⟨_,rfl,by simp,fun j u hu=>by rw [Addr.add_lit,Nat.zero_add];exact (show Blk (wr.alloc (.cells #[.int .u8 (c.toNat:Int)] 5)) wr.heap.size 5 #[.int .u8 (c.toNat:Int)] from Blk.new' _ _ _ rfl).cell_ (by simpa using hu)⟩⟩
       case c1=>intro u hu;simp only [List.mem_cons,List.not_mem_nil,or_false] at hu;subst hu;rfl
       case c2=>unfold maxLen;omega
       case c3 =>
        have:(f.length+1)*ib8.bytes≤1000*1000:=Nat.mul_le_mul (by omega) hbyb8
        omega
       case c4=>have:=HL.out.bel.size;simp;omega
       intro v9 wb hown hgrow _;have HL2:=hid (HL.out.push (ib':=ib) (qb':=true) hown hgrow (by rw [HD.out];exact NX.out));clear hown hgrow;go_wp2_with fail
       go_roundw
       case rel=>exact ⟨k+1,out,f++[c],ib,true,by omega,by go_num,rfl,rfl,HL2⟩
       case measure=>simp [intOf];omega
      | false =>
       have HF:=hid (show fieldsR s.data.toList=([],5) from by rw [HLP.out,←HNW.out,HD.out];exact fldA3 h34 hp _ _ _ _);rw [hp] at HP;clear hp h34;go_wp2_with (first|(go_at_call 114;refine (HP.out _).mono ?_;rintro e w1 ⟨rfl,rfl⟩)|fail)
       rw [Exit.noGoto_ret];go_ret2
       exact ⟨FieldsPost.bad HF.out,HL.out.bel⟩
    | false =>
     by_cases h34:c=34
     ·have q34:((c.toNat:Int)==34)=true:=by subst h34;rfl
      subst h34;have HL2:=hid (HL.out.stay (ib':=true) (qb':=true) (by rw [HD.out];exact fldB1 _ _ _ _));go_wp2_with (first|(go_at_call 114;refine (HP.out _).mono ?_;rintro e w1 ⟨rfl,rfl⟩)|fail)
      go_roundw
      case rel=>exact ⟨k+1,out,f,true,true,by omega,by go_num,rfl,rfl,HL2⟩
      case measure=>simp [intOf];omega
     ·have q34:((c.toNat:Int)==34)=false:=c_no (d:=34) h34
      by_cases h35:c=35
      ·have q35:((c.toNat:Int)==35)=true:=by subst h35;rfl
       subst h35
       cases ib with
       | true =>
        have HF:=hid (show fieldsR s.data.toList=(out++[f],0) from by rw [HLP.out,←HNW.out,HD.out];exact fldB2 _ _ _ _);have hcv:=conv_own HL.out.flds rfl;go_wp2_with (first|(at_builtin;refine wpList_append_any _ rfl (.tmp 67) (.tmp 70) 28 rfl w.heap.size 9 ist zst 1 ist.bytes Tryz.underlying28 hist hzst hszst rfl hzcst (by decide) _ _ _ rfl (HL.out.outs.alloc _) (wr.heap.size+1) (some ⟨wr.heap.size,0,none⟩) 1 1 [.string ⟨f.toArray⟩] rfl ?c0 ?c1 ?c2 ?c3 ?c4 ?_)|fail)
        case c0=>exact ⟨rfl,fun _=>⟨_,rfl,by simp,fun j u hu=>by rw [Addr.add_lit,Nat.zero_add];exact (show Blk (wr.alloc (.cells #[.string ⟨f.toArray⟩] 9)) wr.heap.size 9 #[.string ⟨f.toArray⟩] from Blk.new' _ _ _ rfl).cell_ (by simpa using hu)⟩⟩
        case c1=>intro u hu;simp only [List.mem_cons,List.not_mem_nil,or_false] at hu;subst hu;rfl
        case c2=>unfold maxLen;omega
        case c3 =>
         have:(out.length+1)*ist.bytes≤1000*1000:=Nat.mul_le_mul (by omega) hbyst
         omega
        case c4=>have:=HL.out.bel.size;simp;omega
        intro v9 wb hown hgrow _;clear hcv;have HO:=hid (show wb.ownsRow w.heap.size 9 1 v9 (out++[f]).length (flatC encS (out++[f])) from by rw [List.length_append,flatC_snoc];exact hown);have HB:=hid (Below.grown (HL.out.bel.alloc HL.out.bel.size (.cells #[.string ⟨f.toArray⟩] 9)) hgrow (by have:=HL.out.bel.size;simp;omega) (own_base (HL.out.outs.alloc (.cells #[.string ⟨f.toArray⟩] 9))));clear hown hgrow;go_wp2_with fail
        rw [Exit.noGoto_ret];go_ret2
        exact ⟨FieldsPost.good HF.out HO.out,HB.out⟩
       | false =>
        have HF:=hid (show fieldsR s.data.toList=(out,0) from by rw [HLP.out,←HNW.out,HD.out];exact fldB2 _ _ _ _);go_wp2_with fail
        rw [Exit.noGoto_ret];go_ret2
        exact ⟨FieldsPost.good HF.out HL.out.outs,HL.out.bel⟩
      ·have q35:((c.toNat:Int)==35)=false:=c_no (d:=35) h35
       by_cases h9:c=9∨c=32
       ·cases ib with
        | true =>
         have NX:=hid (fldB3 h9 (s.data.toList.drop (k+1)) out f)
         rcases h9 with h9|h9
         ·have q9:((c.toNat:Int)==9)=true:=by subst h9;rfl
          clear h34 h35;have hcv:=conv_own HL.out.flds rfl;go_wp2_with (first|(at_builtin;refine wpList_append_any _ rfl (.tmp 55) (.tmp 58) 28 rfl w.heap.size 9 ist zst 1 ist.bytes Tryz.underlying28 hist hzst hszst rfl hzcst (by decide) _ _ _ rfl (HL.out.outs.alloc _) (wr.heap.size+1) (some ⟨wr.heap.size,0,none⟩) 1 1 [.string ⟨f.toArray⟩] rfl ?c0 ?c1 ?c2 ?c3 ?c4 ?_)|fail)
          case c0=>exact ⟨rfl,fun _=>⟨_,rfl,by simp,fun j u hu=>by rw [Addr.add_lit,Nat.zero_add];exact (show Blk (wr.alloc (.cells #[.string ⟨f.toArray⟩] 9)) wr.heap.size 9 #[.string ⟨f.toArray⟩] from Blk.new' _ _ _ rfl).cell_ (by simpa using hu)⟩⟩
          case c1=>intro u hu;simp only [List.mem_cons,List.not_mem_nil,or_false] at hu;subst hu;rfl
          case c2=>unfold maxLen;omega
          case c3 =>
           have:(out.length+1)*ist.bytes≤1000*1000:=Nat.mul_le_mul (by omega) hbyst
           omega
          case c4=>have:=HL.out.bel.size;simp;omega
          intro v9 wb hown hgrow _;clear hcv;have HL2:=hid (HL.out.close hown hgrow (by rw [HD.out];exact NX.out));clear hown hgrow;go_wp2_with fail
          go_roundw
          case rel=>exact ⟨k+1,out++[f],[],false,false,by omega,by go_num,rfl,rfl,HL2⟩
          case measure=>simp [intOf];omega
         ·have q9:((c.toNat:Int)==9)=false:=c_no (d:=9) (by rw [h9];decide)
          have q32:((c.toNat:Int)==32)=true:=by subst h9;rfl
          clear h34 h35;have hcv:=conv_own HL.out.flds rfl;go_wp2_with (first|(at_builtin;refine wpList_append_any _ rfl (.tmp 55) (.tmp 58) 28 rfl w.heap.size 9 ist zst 1 ist.bytes Tryz.underlying28 hist hzst hszst rfl hzcst (by decide) _ _ _ rfl (HL.out.outs.alloc _) (wr.heap.size+1) (some ⟨wr.heap.size,0,none⟩) 1 1 [.string ⟨f.toArray⟩] rfl ?c0 ?c1 ?c2 ?c3 ?c4 ?_)|fail)
          case c0=>exact ⟨rfl,fun _=>⟨_,rfl,by simp,fun j u hu=>by rw [Addr.add_lit,Nat.zero_add];exact (show Blk (wr.alloc (.cells #[.string ⟨f.toArray⟩] 9)) wr.heap.size 9 #[.string ⟨f.toArray⟩] from Blk.new' _ _ _ rfl).cell_ (by simpa using hu)⟩⟩
          case c1=>intro u hu;simp only [List.mem_cons,List.not_mem_nil,or_false] at hu;subst hu;rfl
          case c2=>unfold maxLen;omega
          case c3 =>
           have:(out.length+1)*ist.bytes≤1000*1000:=Nat.mul_le_mul (by omega) hbyst
           omega
          case c4=>have:=HL.out.bel.size;simp;omega
          intro v9 wb hown hgrow _;clear hcv;have HL2:=hid (HL.out.close hown hgrow (by rw [HD.out];exact NX.out));clear hown hgrow;go_wp2_with fail
          go_roundw
          case rel=>exact ⟨k+1,out++[f],[],false,false,by omega,by go_num,rfl,rfl,HL2⟩
          case measure=>simp [intOf];omega
        | false =>
         have NX:=hid (fldB4 h9 (s.data.toList.drop (k+1)) out f)
         rcases h9 with h9|h9
         ·have q9:((c.toNat:Int)==9)=true:=by subst h9;rfl
          clear h34 h35;have HL2:=hid (HL.out.stay (ib':=false) (qb':=false) (by rw [HD.out];exact NX.out));go_wp2_with (first|(go_at_call 114;refine (HP.out _).mono ?_;rintro e w1 ⟨rfl,rfl⟩)|fail)
          go_roundw
          case rel=>exact ⟨k+1,out,f,false,false,by omega,by go_num,rfl,rfl,HL2⟩
          case measure=>simp [intOf];omega
         ·have q9:((c.toNat:Int)==9)=false:=c_no (d:=9) (by rw [h9];decide)
          have q32:((c.toNat:Int)==32)=true:=by subst h9;rfl
          clear h34 h35;have HL2:=hid (HL.out.stay (ib':=false) (qb':=false) (by rw [HD.out];exact NX.out));go_wp2_with (first|(go_at_call 114;refine (HP.out _).mono ?_;rintro e w1 ⟨rfl,rfl⟩)|fail)
          go_roundw
          case rel=>exact ⟨k+1,out,f,false,false,by omega,by go_num,rfl,rfl,HL2⟩
          case measure=>simp [intOf];omega
       ·have h9a:c≠9:=fun hh=>h9 (.inl hh)
        have h9b:c≠32:=fun hh=>h9 (.inr hh)
        have q9:((c.toNat:Int)==9)=false:=c_no (d:=9) h9a;have q32:((c.toNat:Int)==32)=false:=c_no (d:=32) h9b
        cases hp:prC c with
        | true =>
         have NX:=hid (fldB5 h34 h35 h9a h9b hp (s.data.toList.drop (k+1)) out f ib);rw [hp] at HP;clear hp h34 h35 h9 h9a h9b;go_wp2_with (first|(go_at_call 114;refine (HP.out _).mono ?_;rintro e w1 ⟨rfl,rfl⟩)|(at_builtin;refine wpList_append_any _ rfl (.tmp 60) (.tmp 62) 22 rfl w.heap.size 5 ib8 zb8 1 ib8.bytes Tryz.underlying22 hib8 hzb8 hszb8 rfl hzcb8 (by decide) _ _ _ rfl (HL.out.flds.alloc _) (wr.heap.size+1) (some ⟨wr.heap.size,0,none⟩) 1 1 [.int .u8 (c.toNat:Int)] rfl ?c0 ?c1 ?c2 ?c3 ?c4 ?_)|fail)
         case c0=>exact ⟨rfl,fun _=>⟨_,rfl,by simp,fun j u hu=>by rw [Addr.add_lit,Nat.zero_add];exact (show Blk (wr.alloc (.cells #[.int .u8 (c.toNat:Int)] 5)) wr.heap.size 5 #[.int .u8 (c.toNat:Int)] from Blk.new' _ _ _ rfl).cell_ (by simpa using hu)⟩⟩
         case c1=>intro u hu;simp only [List.mem_cons,List.not_mem_nil,or_false] at hu;subst hu;rfl
         case c2=>unfold maxLen;omega
         case c3 =>
          have:(f.length+1)*ib8.bytes≤1000*1000:=Nat.mul_le_mul (by omega) hbyb8
          omega
         case c4=>have:=HL.out.bel.size;simp;omega
         intro v9 wb hown hgrow _;have HL2:=hid (HL.out.push (ib':=true) (qb':=false) hown hgrow (by rw [HD.out];exact NX.out));clear hown hgrow;go_wp2_with fail
         go_roundw
         case rel=>exact ⟨k+1,out,f++[c],true,false,by omega,by go_num,rfl,rfl,HL2⟩
         case measure=>simp [intOf];omega
        | false =>
         have HF:=hid (show fieldsR s.data.toList=([],5) from by rw [HLP.out,←HNW.out,HD.out];exact fldB6 h34 h35 h9a h9b hp _ _ _ _);rw [hp] at HP;clear hp h34 h35 h9 h9a h9b;go_wp2_with (first|(go_at_call 114;refine (HP.out _).mono ?_;rintro e w1 ⟨rfl,rfl⟩)|fail)
         rw [Exit.noGoto_ret];go_ret2
         exact ⟨FieldsPost.bad HF.out,HL.out.bel⟩
   ·obtain rfl:k=s.size:=by omega
    have hd2:decide ((s.size:Int)<(s.size:Int))=false:=by simp
    have HNW:=hid (show fldGo [] out f ib qb=fldGo s.data.toList [] [] false false from by have:=HL.out.now;rwa [List.drop_of_length_le (by simp)] at this);clear hlt hk
    cases qb with
    | true =>
     have HF:=hid (show fieldsR s.data.toList=([],5) from by rw [HLP.out,←HNW.out];rfl);go_wp2_with fail
     rw [Exit.noGoto_ret];go_ret2
     exact ⟨FieldsPost.bad HF.out,HL.out.bel⟩
    | false =>
     cases ib with
     | true =>
      have HF:=hid (show fieldsR s.data.toList=(out++[f],0) from by rw [HLP.out,←HNW.out];rfl);have hcv:=conv_own HL.out.flds rfl;go_wp2_with (first|(at_builtin;refine wpList_append_any _ rfl (.tmp 67) (.tmp 70) 28 rfl w.heap.size 9 ist zst 1 ist.bytes Tryz.underlying28 hist hzst hszst rfl hzcst (by decide) _ _ _ rfl (HL.out.outs.alloc _) (wr.heap.size+1) (some ⟨wr.heap.size,0,none⟩) 1 1 [.string ⟨f.toArray⟩] rfl ?c0 ?c1 ?c2 ?c3 ?c4 ?_)|fail)
      case c0=>exact ⟨rfl,fun _=>⟨_,rfl,by simp,fun j u hu=>by rw [Addr.add_lit,Nat.zero_add];exact (show Blk (wr.alloc (.cells #[.string ⟨f.toArray⟩] 9)) wr.heap.size 9 #[.string ⟨f.toArray⟩] from Blk.new' _ _ _ rfl).cell_ (by simpa using hu)⟩⟩
      case c1=>intro u hu;simp only [List.mem_cons,List.not_mem_nil,or_false] at hu;subst hu;rfl
      case c2=>unfold maxLen;omega
      case c3 =>
       have:(out.length+1)*ist.bytes≤1000*1000:=Nat.mul_le_mul (by omega) hbyst
       omega
      case c4=>have:=HL.out.bel.size;simp;omega
      intro v9 wb hown hgrow _;clear hcv;have HO:=hid (show wb.ownsRow w.heap.size 9 1 v9 (out++[f]).length (flatC encS (out++[f])) from by rw [List.length_append,flatC_snoc];exact hown);have HB:=hid (Below.grown (HL.out.bel.alloc HL.out.bel.size (.cells #[.string ⟨f.toArray⟩] 9)) hgrow (by have:=HL.out.bel.size;simp;omega) (own_base (HL.out.outs.alloc (.cells #[.string ⟨f.toArray⟩] 9))));clear hown hgrow;go_wp2_with fail
      rw [Exit.noGoto_ret];go_ret2
      exact ⟨FieldsPost.good HF.out HO.out,HB.out⟩
     | false =>
      have HF:=hid (show fieldsR s.data.toList=(out,0) from by rw [HLP.out,←HNW.out];rfl);go_wp2_with fail
      rw [Exit.noGoto_ret];go_ret2
      exact ⟨FieldsPost.good HF.out HL.out.outs,HL.out.bel⟩
def LineWs (w:World):Prop:=∀i l,lineL[i]? = some l→w.cell? ⟨4,i,none⟩=some (.string ⟨l.toArray⟩)
theorem LineWs.below {w w':World} (h:LineWs w) (hb:Below w.heap.size w w'):LineWs w':=fun i l hl=>(hb.cell (block_lt_of_cell (h i l hl))).trans (h i l hl)
theorem lines_words {w:World} (h:LineWs w):Words w.heap.size w (.slice (some ⟨4,0,none⟩) 4 4) lineL :=
 ⟨_,4,rfl,block_lt_of_cell (h 0 _ rfl),fun j l hl=>h j l hl⟩
theorem wline_any (s:ByteArray) (w:World) (hW:LineWs w) (hs:s.size≤1048576) :
 Calls Tryz.prog 83 #[.string s] w fun e w'=>e=.returned (.tuple #[.int .i64 (wordR lineL 1 s.data.toList).1,.int .i64 (wordR lineL 1 s.data.toList).2])∧Below w.heap.size w w':=by
 have HN:=hid (numbered_any _ lineL 1 s w (lines_words hW) (by decide) hs (by decide));clear hW
 go_enter Tryz.func83,Tryz.ntmps83;go_wp2_with fail
 refine HN.out.mono ?_;rintro e w1 ⟨rfl,hb⟩;go_wp2_with fail
 go_ret2
 exact ⟨rfl,hb⟩
theorem namesWrongZone (A:Option Addr) (n c m:Nat) (w:World) (hn:n≤1000000) (hm:m≤1000) (h:n≠m) :
 Calls Tryz.prog 74 #[.slice A n c,.int .i64 (m:Int),.func (.func 42) #[] #[]] w fun e w'=>e=.returned (.int .i64 5)∧Below w.heap.size w w':=by
 have hq:((n:Int)==(m:Int))=false:=by rw [beq_eq_false_iff_ne];omega
 have hq2:((n:Int) != (m:Int))=true:=by simp;omega
 have hq3:(n==m)=false:=by rw [beq_eq_false_iff_ne];exact h
 have hq4:(n != m)=true:=by simp [h]
 go_enter Tryz.func74,Tryz.ntmps74;go_wp2_with fail
 go_ret
 exact ⟨rfl,by go_grown⟩
theorem namesWrongSet (A:Option Addr) (n c m:Nat) (w:World) (hn:n≤1000000) (hm:m≤1000) (h:n≠m) :
 Calls Tryz.prog 74 #[.slice A n c,.int .i64 (m:Int),.func (.func 32) #[] #[]] w fun e w'=>e=.returned (.int .i64 5)∧Below w.heap.size w w':=by
 have hq:((n:Int)==(m:Int))=false:=by rw [beq_eq_false_iff_ne];omega
 have hq2:((n:Int) != (m:Int))=true:=by simp;omega
 have hq3:(n==m)=false:=by rw [beq_eq_false_iff_ne];exact h
 have hq4:(n != m)=true:=by simp [h]
 go_enter Tryz.func74,Tryz.ntmps74;go_wp2_with fail
 go_ret
 exact ⟨rfl,by go_grown⟩
theorem llink_any (A:Option Addr) (n c:Nat) (ls:List (List UInt8)) (w:World) (hr:StrArg w A ls) (hn:ls.length=n) (hl:∀l ∈ ls,l.length≤1048576) (hm:n≤1000000) :
 Calls Tryz.prog 119 #[.slice A n c] w fun e w'=>e=.returned (.tuple #[.agg (linkR ls).1.cells,.int .i64 (linkR ls).2])∧Below w.heap.size w w':=by
 have HB0:=hid (show Blk (w.alloc (.cells #[.string ⟨#[]⟩,.string ⟨#[]⟩] 64)) w.heap.size 64 #[.string ⟨#[]⟩,.string ⟨#[]⟩]∧Below w.heap.size w (w.alloc (.cells #[.string ⟨#[]⟩,.string ⟨#[]⟩] 64)) from ⟨Blk.new' _ _ _ rfl,(Below.refl _ _).alloc (Nat.le_refl _) _⟩)
 by_cases h2:n=2
 ·subst h2
  obtain ⟨a,b,rfl⟩:∃a b,ls=[a,b]:=by
   match ls,hn with
   | [a,b],_=>exact ⟨a,b,rfl⟩
  obtain ⟨g,o,rfl,hrow⟩:=hr.row (by simp);have hrow0:=hrow.below HB0.out.2;have HN:=hid (show Calls Tryz.prog 74 #[.slice (some ⟨g,o,none⟩) 2 c,.int .i64 2,.func (.func 42) #[] #[]] (w.alloc (.cells #[.string ⟨#[]⟩,.string ⟨#[]⟩] 64)) fun e w'=>e=.returned (.int .i64 (if [a,b].all zoneB=true then 0 else 9))∧Below (w.alloc (.cells #[.string ⟨#[]⟩,.string ⟨#[]⟩] 64)).heap.size (w.alloc (.cells #[.string ⟨#[]⟩,.string ⟨#[]⟩] 64)) w' from namesZone_any g o c [a,b] _ hrow0 (by simp) hl);have HR0:=hid hrow0;clear hrow hrow0 hr
  cases hz:[a,b].all zoneB with
  | false =>
   have HE:=hid (show linkR [a,b]=(⟨[],[]⟩,9) from by unfold linkR;rw [if_neg (by simp),if_pos hz]);rw [hz,if_neg (by decide)] at HN;clear hz hl hn hm
   go_enter Tryz.func119,Tryz.ntmps119;go_wp2_with fail
   generalize w.alloc (.cells #[.string ⟨#[]⟩,.string ⟨#[]⟩] 64)=w0 at *;refine HN.out.mono ?_;rintro e w1 ⟨rfl,hb⟩;have HB1:=hid (And.intro (HB0.out.1.below hb HB0.out.1.lt) (HB0.out.2.trans (hb.mono HB0.out.2.size)));have r0:=HB1.out.1.cell_ (i:=0) (u:=.string ⟨#[]⟩) rfl;have r1:=HB1.out.1.cell_ (i:=1) (u:=.string ⟨#[]⟩) rfl;have f0:=HB1.out.1.frozen 0;have f1:=HB1.out.1.frozen 1;clear hb HB0 HN;go_wp2_with fail
   refine bodyPost_ret (v:=.tuple #[.agg #[.string ⟨#[]⟩,.string ⟨#[]⟩],.int .i64 9]) (by simp [results,Tryz.results119,go_sem,r0,r1,f0,f1]) rfl ⟨by rw [HE.out];rfl,by have hbx:=HB1.out.2;go_grown⟩
  | true =>
   have HE:=hid (show linkR [a,b]=(⟨a,b⟩,0) from by unfold linkR;rw [if_neg (by simp),if_neg (by rw [hz];decide)];rfl);rw [hz,if_pos rfl] at HN;clear hz hl hn hm
   go_enter Tryz.func119,Tryz.ntmps119;go_wp2_with fail
   generalize w.alloc (.cells #[.string ⟨#[]⟩,.string ⟨#[]⟩] 64)=w0 at *;refine HN.out.mono ?_;rintro e w1 ⟨rfl,hb⟩;have HB1:=hid (And.intro (HB0.out.1.below hb HB0.out.1.lt) (And.intro (HB0.out.2.trans (hb.mono HB0.out.2.size)) (HR0.out.below hb)));clear hb HB0 HN;go_wp2_with fail
   refine wp_region_vals 7 (fun W=>Blk W w.heap.size 64 #[.string ⟨#[]⟩,.string ⟨#[]⟩]∧Below w.heap.size w W∧StrRow W g o [a,b]) (by kernel_rfl) (by kernel_rfl) rfl (⟨HB1.out.1.drew,HB1.out.2.1.drew,HB1.out.2.2.below (Below.refl _ _).drew⟩) (fun W W' h hb=>⟨h.1.below hb h.1.lt,h.2.1.trans (hb.mono h.2.1.size),h.2.2.below hb⟩) ?_
   iterate 7
    apply exV_ex rfl ?_ (fun K hK=>?_)
    any_goals
     intro W hC;have z0:=hC.2.2.at_ 0 a rfl;have z1:=hC.2.2.at_ 1 b rfl;rw [Nat.add_zero] at z0;go_simp
     all_goals first|exact ⟨Below.refl _ _,rfl⟩|exact Below.refl _ _
    any_goals
     revert hK
     intro hK;go_simp;refine hK _ ?_;clear hK K
   refine exV_end fun W hC=>?_
   clear HB1;have HB2:=hid hC;have r0:=hC.1.cell_ (i:=0) (u:=.string ⟨#[]⟩) rfl;have r1:=hC.1.cell_ (i:=1) (u:=.string ⟨#[]⟩) rfl;have f0:=hC.1.frozen 0;have f1:=hC.1.frozen 1;clear hC;go_wp2_with fail
   refine bodyPost_ret (v:=.tuple #[.agg #[.string ⟨a.toArray⟩,.string ⟨b.toArray⟩],.int .i64 0]) (by simp [results,Tryz.results119,go_sem,r0,r1,f0,f1]) rfl ⟨by rw [HE.out];rfl,(HB2.out.2.1.setCell (Nat.le_refl _) _).setCell (Nat.le_refl _) _⟩
 ·have HE:=hid (show linkR ls=(⟨[],[]⟩,5) from by unfold linkR;rw [if_pos (by omega)])
  have HN:=hid (namesWrongZone A n c 2 (w.alloc (.cells #[.string ⟨#[]⟩,.string ⟨#[]⟩] 64)) hm (by decide) h2);clear hr hl h2 hn hm
  go_enter Tryz.func119,Tryz.ntmps119;go_wp2_with fail
  generalize w.alloc (.cells #[.string ⟨#[]⟩,.string ⟨#[]⟩] 64)=w0 at *;refine HN.out.mono ?_;rintro e w1 ⟨rfl,hb⟩;have HB1:=hid (And.intro (HB0.out.1.below hb HB0.out.1.lt) (HB0.out.2.trans (hb.mono HB0.out.2.size)));have r0:=HB1.out.1.cell_ (i:=0) (u:=.string ⟨#[]⟩) rfl;have r1:=HB1.out.1.cell_ (i:=1) (u:=.string ⟨#[]⟩) rfl;have f0:=HB1.out.1.frozen 0;have f1:=HB1.out.1.frozen 1;clear hb HB0 HN;go_wp2_with fail
  refine bodyPost_ret (v:=.tuple #[.agg #[.string ⟨#[]⟩,.string ⟨#[]⟩],.int .i64 5]) (by simp [results,Tryz.results119,go_sem,r0,r1,f0,f1]) rfl ⟨by rw [HE.out];rfl,by have hbx:=HB1.out.2;go_grown⟩
theorem lshift_any (A:Option Addr) (n c:Nat) (ls:List (List UInt8)) (w:World) (hr:StrArg w A ls) (hn:ls.length=n) (hl:∀l ∈ ls,l.length≤1048576) (hm:n≤1000000) :
 Calls Tryz.prog 120 #[.slice A n c] w fun e w'=>e=.returned (.tuple #[.string ⟨(shiftR ls).1.toArray⟩,.int .i64 (shiftR ls).2])∧Below w.heap.size w w':=by
 by_cases h2:n=1
 ·subst h2
  obtain ⟨a,rfl⟩:∃a,ls=[a]:=by
   match ls,hn with
   | [a],_=>exact ⟨a,rfl⟩
  obtain ⟨g,o,rfl,hrow⟩:=hr.row (by simp);have HN:=hid (show Calls Tryz.prog 74 #[.slice (some ⟨g,o,none⟩) 1 c,.int .i64 1,.func (.func 32) #[] #[]] w fun e w'=>e=.returned (.int .i64 (if [a].all setB=true then 0 else 9))∧Below w.heap.size w w' from namesSet_any g o c [a] _ hrow (by simp) hl);have HR0:=hid hrow;clear hrow hr
  cases hz:[a].all setB with
  | false =>
   have HE:=hid (show shiftR [a]=([],9) from by unfold shiftR;rw [if_neg (by simp),if_pos hz]);rw [hz,if_neg (by decide)] at HN;clear hz hl hn hm
   go_enter Tryz.func120,Tryz.ntmps120;go_wp2_with fail
   refine HN.out.mono ?_;rintro e w1 ⟨rfl,hb⟩;go_wp2_with fail
   go_ret2
   exact ⟨by rw [HE.out];rfl,hb⟩
  | true =>
   have HE:=hid (show shiftR [a]=(a,0) from by unfold shiftR;rw [if_neg (by simp),if_neg (by rw [hz];decide)];rfl);rw [hz,if_pos rfl] at HN;clear hz hl hn hm
   go_enter Tryz.func120,Tryz.ntmps120;go_wp2_with fail
   refine HN.out.mono ?_;rintro e w1 ⟨rfl,hb⟩;have r0:=(HR0.out.below hb).at_ 0 a rfl;rw [Nat.add_zero] at r0;have HB:=hid hb;clear hb;go_wp2_with fail
   go_ret2
   exact ⟨by rw [HE.out];rfl,HB.out⟩
 ·have HE:=hid (show shiftR ls=([],5) from by unfold shiftR;rw [if_pos (by omega)])
  have HN:=hid (namesWrongSet A n c 1 w hm (by decide) h2);clear hr hl h2 hn hm
  go_enter Tryz.func120,Tryz.ntmps120;go_wp2_with fail
  refine HN.out.mono ?_;rintro e w1 ⟨rfl,hb⟩;go_wp2_with fail
  go_ret2
  exact ⟨by rw [HE.out];rfl,hb⟩
end Go.Proofs.YtboagmbmmoomiaaGreatDoor
