/-
  SourceFirst's texts, by the plain law.
-/
import Derived.Test.YtboagmbmmoomiaaGreatDoorSrcBack
import Derived.Lib.Replace
import Derived.Lib.IndexMore
set_option linter.unusedVariables false
set_option linter.unusedSimpArgs false
set_option maxRecDepth 100000
set_option maxHeartbeats 4000000
namespace Go.Proofs.YtboagmbmmoomiaaGreatDoor
open Go.RowKit
theorem line_word {st:RdP} (ho:st.op=false) {n:Int} {x a:List UInt8} {f:List (List UInt8)} (hx:fieldsR x=(a::f,0)):lineS st n x=wordS st n a f:=by
 unfold lineS;rw [hx,if_neg (fun h=>h rfl)]
 show (if st.op=true then _ else _)=_
 rw [if_neg (by rw [ho];decide)]
theorem line_err {st:RdP} {n e:Int} {x:List UInt8} (hx:(fieldsR x).2=e) (he:e≠0):(lineS st n x).2=e:=by
 unfold lineS;rw [if_pos (by rw [hx];exact he)];exact hx
def firstT:List (List UInt8 × Int):=[([90,111,110,101],5),([90,111,110,101,32,47,120,32,48,58,48,48,32,45,32,71,77,84],9),([120],8),([34],5),([82,117,108,101,32,7],5),([34,34,32,120],8),([76,105,110,107,32,65],5),([82,117,108,101,32,82],5)]
structure BadLn (x:List UInt8) (e:Int):Prop where
 bad:∀st n,st.op=false→(lineS st n x).2=e
 ne:e≠0
 some:x≠[]
 no:(10:UInt8) ∉ x
 len:x.length≤20
theorem first_0:BadLn [90,111,110,101] 5:=⟨fun st n ho=>by
 rw [line_word ho (show fieldsR [90,111,110,101]=([[90,111,110,101]],0) from by decide +kernel)];unfold wordS;rw [word_zone]
 simp [zoneS],by decide,by decide,by decide,by decide⟩
theorem first_1:BadLn [90,111,110,101,32,47,120,32,48,58,48,48,32,45,32,71,77,84] 9:=⟨fun st n ho=>by
 rw [line_word ho (show fieldsR [90,111,110,101,32,47,120,32,48,58,48,48,32,45,32,71,77,84]=([[90,111,110,101],[47,120],[48,58,48,48],[45],[71,77,84]],0) from by decide +kernel)];unfold wordS;rw [word_zone]
 simp [zoneS,show zoneB [47,120]=false from by decide +kernel],by decide,by decide,by decide,by decide⟩
theorem first_2:BadLn [120] 8:=⟨fun st n ho=>by
 rw [line_word ho (show fieldsR [120]=([[120]],0) from by decide +kernel)];unfold wordS;rw [show wordR lineL 1 [120]=(0,8) from by decide +kernel]
 rfl,by decide,by decide,by decide,by decide⟩
theorem first_3:BadLn [34] 5:=⟨fun st n ho=>by
 exact line_err (show (fieldsR [34]).2=5 from by decide +kernel) (by decide),by decide,by decide,by decide,by decide⟩
theorem first_4:BadLn [82,117,108,101,32,7] 5:=⟨fun st n ho=>by
 exact line_err (show (fieldsR [82,117,108,101,32,7]).2=5 from by decide +kernel) (by decide),by decide,by decide,by decide,by decide⟩
theorem first_5:BadLn [34,34,32,120] 8:=⟨fun st n ho=>by
 rw [line_word ho (show fieldsR [34,34,32,120]=([[],[120]],0) from by decide +kernel)];unfold wordS;rw [show wordR lineL 1 []=(0,8) from by decide +kernel]
 rfl,by decide,by decide,by decide,by decide⟩
theorem first_6:BadLn [76,105,110,107,32,65] 5:=⟨fun st n ho=>by
 rw [line_word ho (show fieldsR [76,105,110,107,32,65]=([[76,105,110,107],[65]],0) from by decide +kernel)];unfold wordS;rw [word_link]
 simp [linkS,linkR],by decide,by decide,by decide,by decide⟩
theorem first_7:BadLn [82,117,108,101,32,82] 5:=⟨fun st n ho=>by
 rw [line_word ho (show fieldsR [82,117,108,101,32,82]=([[82,117,108,101],[82]],0) from by decide +kernel)];unfold wordS;rw [(show wordR lineL 1 [82,117,108,101]=(1,0) from by decide +kernel)];have h:(ruleR [[82]]).2=5:=by decide +kernel
 simp [ruleS,h],by decide,by decide,by decide,by decide⟩
theorem first_at:∀(j:Nat) (q:List UInt8 × Int),firstT[j]? = some q→BadLn q.1 q.2
 | 0,q,h=>by cases h;exact first_0
 | 1,q,h=>by cases h;exact first_1
 | 2,q,h=>by cases h;exact first_2
 | 3,q,h=>by cases h;exact first_3
 | 4,q,h=>by cases h;exact first_4
 | 5,q,h=>by cases h;exact first_5
 | 6,q,h=>by cases h;exact first_6
 | 7,q,h=>by cases h;exact first_7
 | j+8,q,h=>by simp [firstT] at h
theorem rep_no:∀(k:Nat) (s:List UInt8),s.count 10=k→(10:UInt8) ∉ Lib.replaceK [10] [32] k s∧(Lib.replaceK [10] [32] k s).length=s.length
 | 0,s,h=>⟨List.count_eq_zero.1 h,rfl⟩
 | k+1,s,h=>by
  have h0:0<Lib.count s [10]:=by rw [Lib.count_one];omega
  obtain ⟨i,hi⟩:=Lib.index_of_count h0;have h1:Lib.count s [10]=1+Lib.count (s.drop (i+1)) [10]:=Lib.count_hit (by decide) hi;have h2:Lib.index s [10]+1≤(s.length:Int):=Lib.index_room s [10] (by omega);rw [Lib.count_one,Lib.count_one] at h1;have h3:i+1≤s.length:=by omega
  have h4:s.count 10=(s.take (i+1)).count 10+(s.drop (i+1)).count 10:=by rw [←List.count_append,List.take_append_drop]
  obtain ⟨r1,r2⟩:=rep_no k (s.drop (i+1)) (by omega)
  have h5:(10:UInt8) ∉ s.take i:=by
   rcases Lib.index_spec s [10] with ⟨h,_⟩|⟨i2,e2,_,ho,hno⟩
   ·omega
   ·obtain rfl:i2=i:=by omega
    have ho2:s[i2]? = some 10:=by
     have:=ho;simp only [Lib.occAt] at this
     cases hd:s.drop i2 with
     | nil=>have:=congrArg List.length hd;simp at this;omega
     | cons c l =>
      rw [hd] at this;have e3:s[i2]? = some c:=by rw [←List.head?_drop,hd];rfl
      have h9:(10:UInt8)=c:=by simpa using this
      rw [e3,←h9]
    have h6:s.take (i2+1)=s.take i2++[10]:=by rw [List.take_add_one,ho2];rfl
    rw [h6,List.count_append] at h4;have h7:([10]:List UInt8).count 10=1:=rfl;exact List.count_eq_zero.1 (by omega)
  rw [Lib.replaceK_hit _ _ _ _ _ hi];refine ⟨fun hm=>?_,?_⟩
  ·rcases List.mem_append.1 hm with hm|hm
   ·rcases List.mem_append.1 hm with hm|hm
    ·exact h5 hm
    ·exact absurd hm (by decide)
   ·exact r1 hm
  ·rw [List.length_append,List.length_append]
   rw [show i+([10]:List UInt8).length=i+1 from rfl,r2,List.length_take,List.length_drop,show ([32]:List UInt8).length=1 from rfl]
   omega
theorem repA_no (s:List UInt8):(10:UInt8) ∉ Lib.replaceAll s [10] [32]∧(Lib.replaceAll s [10] [32]).length=s.length:=by
 have h:Lib.replaceAll s [10] [32]=Lib.replaceK [10] [32] (Lib.count s [10]) s:=by
  unfold Lib.replaceAll Lib.replace Lib.replaceNum;rw [if_neg (by decide),if_pos (Or.inl (by decide))]
 rw [h];exact rep_no _ s (Lib.count_one 10 s).symm
def noZ (s:SourceP):SourceP:=⟨s.rules,[],s.links,s.shifts⟩
theorem noZ_right {s:SourceP} (h:SrcRight s):SrcRight (noZ s):=⟨h.rules,fun z hz=>(by cases hz),h.links,h.shifts⟩
theorem joinB_snoc (a:List (List UInt8)) (x:List UInt8):joinB [10] (a++[x])=linesT a++x:=by
 rw [joinB_nl _ (by simp),List.dropLast_concat,List.getLast?_concat]
 rfl
end Go.Proofs.YtboagmbmmoomiaaGreatDoor
