/-
  The plain side of reading a text again: the fields of a line that is printed, the lines of a text, a source out of its text.
  Plain laws of layer 13: as many lines of one kind as may be; a zone that stays open; lines without fields between others; the first line that is wrong.
-/
import Derived.Test.YtboagmbmmoomiaaGreatDoorSrcPlain
import Derived.Test.YtboagmbmmoomiaaGreatDoorSrcRight
set_option linter.unusedVariables false
set_option linter.unusedSimpArgs false
set_option maxRecDepth 100000
set_option maxHeartbeats 4000000
namespace Go.Proofs.YtboagmbmmoomiaaGreatDoor
open Go.RowKit
theorem word_rule:wordR lineL 1 ruleB=(1,0):=by decide +kernel
theorem word_zone:wordR lineL 1 [90,111,110,101]=(2,0):=by decide +kernel
theorem word_link:wordR lineL 1 [76,105,110,107]=(3,0):=by decide +kernel
theorem word_shift:wordR lineL 1 [83,104,105,102,116]=(4,0):=by decide +kernel
def PF (x:List UInt8):Prop:=x≠[]∧∀c ∈ x,plC c=true
theorem fld_step {c:UInt8} (h:plC c=true) (t:List UInt8) (out:List (List UInt8)) (f:List UInt8) (i:Bool):fldGo (c::t) out f i false=fldGo t out (f++[c]) true false:=by
 obtain ⟨h1,h2,h3,h4,h5⟩:=plC_of h
 simp [fldGo,h1,h2,h3,h4,h5]
theorem fld_more:∀(x:List UInt8) (t:List UInt8) (out:List (List UInt8)) (f:List UInt8),(∀c ∈ x,plC c=true)→fldGo (x++t) out f true false=fldGo t out (f++x) true false
 | [],t,out,f,_=>by simp
 | c::x,t,out,f,h=>by
  rw [List.cons_append,fld_step (h c (List.mem_cons_self ..)),fld_more x t out _ fun d hd=>h d (List.mem_cons_of_mem _ hd)]
  simp
theorem fld_word {x:List UInt8} (h:PF x) (t:List UInt8) (out:List (List UInt8)):fldGo (x++t) out [] false false=fldGo t out x true false:=by
 cases x with
 | nil=>exact absurd rfl h.1
 | cons c x =>
  rw [List.cons_append,fld_step (h.2 c (List.mem_cons_self ..)),fld_more x t out _ fun d hd=>h.2 d (List.mem_cons_of_mem _ hd)]
  simp
theorem fld_flat:∀(l:List (List UInt8)) (x:List UInt8) (out:List (List UInt8)),PF x→(∀y ∈ l,PF y)→fldGo (x++l.flatMap fun y=>32::y) out [] false false=(out++x::l,0)
 | [],x,out,hx,_=>by
  rw [List.flatMap_nil,fld_word hx]
  simp [fldGo]
 | y::l,x,out,hx,h=>by
  rw [fld_word hx,List.flatMap_cons,List.cons_append];have e:fldGo (32::(y++l.flatMap fun y=>32::y)) out x true false=fldGo (y++l.flatMap fun y=>32::y) (out++[x]) [] false false:=by simp [fldGo]
  rw [e,fld_flat l y _ (h y (List.mem_cons_self ..)) fun z hz=>h z (List.mem_cons_of_mem _ hz)]
  simp
theorem fld_join {l:List (List UInt8)} (h:∀y ∈ l,PF y):fldGo (joinS l) [] [] false false=(l,0):=by
 cases l with
 | nil=>rfl
 | cons x l =>
  rw [joinS_flat,fld_flat l x [] (h x (List.mem_cons_self ..)) fun z hz=>h z (List.mem_cons_of_mem _ hz)]
  simp
theorem fields_join {l:List (List UInt8)} (h:∀y ∈ l,PF y) (hl:(joinS l).length≤300):fieldsR (joinS l)=(l,0):=by
 unfold fieldsR;rw [if_neg (by omega),fld_join h]
theorem plC_kind (c:UInt8) (h:kindN c.toNat≠0):plC c=true:=by
 have h':∀n:Fin 256,kindN n.val≠0→plC (UInt8.ofNat n.val)=true:=by decide +kernel
 have:=h' ⟨c.toNat,c.toNat_lt⟩ h
 simpa using this
theorem ofB_pf {a b m:Nat} {l:List UInt8} (h:ofB a b m l=true) (ha:1≤a):PF l:=by
 unfold ofB at h;rw [Bool.and_eq_true,List.all_eq_true,decide_eq_true_eq] at h;refine ⟨fun e=>?_,fun c hc=>plC_kind c fun hk=>?_⟩
 ·rw [e] at h;simp at h;omega
 ·have:=h.2 c hc
  rw [hk] at this
  simp at this
theorem set_pf {l:List UInt8} (h:setB l=true):PF l:=by
 unfold setB at h;rw [Bool.and_eq_true] at h;exact ofB_pf h.1 (by omega)
theorem zparts_pf:∀(l:List UInt8),(∀p ∈ zparts l,∀c ∈ p,plC c=true)→∀c ∈ l,plC c=true
 | [],_,c,hc=>by simp at hc
 | a::l,h,c,hc=>by
  unfold zparts at h
  by_cases ha:a=47
  ·rw [if_pos ha] at h
   rcases List.mem_cons.1 hc with rfl|hc
   ·rw [ha];decide
   ·exact zparts_pf l (fun p hp=>h p (List.mem_cons_of_mem _ hp)) c hc
  ·rw [if_neg ha] at h
   cases hz:zparts l with
   | nil=>exact absurd hz (by
    cases l with
    | nil=>simp [zparts]
    | cons b l=>unfold zparts;split;· simp
                ·split<;>simp)
   | cons p q =>
    rw [hz] at h
    rcases List.mem_cons.1 hc with rfl|hc
    ·exact h _ (List.mem_cons_self ..) _ (List.mem_cons_self ..)
    ·refine zparts_pf l (fun r hr d hd=>?_) c hc
     rw [hz] at hr
     rcases List.mem_cons.1 hr with rfl|hr
     ·exact h _ (List.mem_cons_self ..) d (List.mem_cons_of_mem _ hd)
     ·exact h r (List.mem_cons_of_mem _ hr) d hd
theorem zone_pf {l:List UInt8} (h:zoneB l=true):PF l:=by
 unfold zoneB at h;rw [Bool.and_eq_true,List.all_eq_true] at h;refine ⟨fun e=>?_,zparts_pf l fun p hp=>?_⟩
 ·subst e
  have:=h.2 [] (by simp [zparts])
  revert this
  decide
 ·have:=h.2 p hp
  unfold partB at this;rw [Bool.and_eq_true,Bool.and_eq_true] at this;exact (ofB_pf this.1.1 (by omega)).2
theorem zoneBk_len {l:List UInt8} (h:zoneB l=true):l.length≤60:=by
 unfold zoneB at h;rw [Bool.and_eq_true,decide_eq_true_eq] at h;exact h.1
theorem setBk_len {l:List UInt8} (h:setB l=true):l.length≤30:=by
 unfold setB ofB at h;rw [Bool.and_eq_true,Bool.and_eq_true,decide_eq_true_eq] at h;exact h.1.1.2
def pfB (l:List UInt8) (n:Nat):Bool := !l.isEmpty&&l.all plC&&decide (l.length≤n)
theorem pfB_pf {l:List UInt8} {n:Nat} (h:pfB l n=true):PF l∧l.length≤n:=by
 unfold pfB at h;rw [Bool.and_eq_true,Bool.and_eq_true,List.all_eq_true,decide_eq_true_eq] at h;exact ⟨⟨fun e=>by rw [e] at h;simp at h,h.1.2⟩,h.2⟩
theorem dig_pf {n:Nat} (h:n<1000):PF (Lib.decDigits n)∧(Lib.decDigits n).length≤4:=by
 have h':∀n:Fin 1000,pfB (Lib.decDigits n.val) 4=true:=by decide +kernel
 exact pfB_pf (h' ⟨n,h⟩)
theorem ydig_pf {n:Nat} (h1:1850≤n) (h:n≤2149):PF (Lib.decDigits n)∧(Lib.decDigits n).length≤4:=by
 have h':∀n:Fin 300,pfB (Lib.decDigits (1850+n.val)) 4=true:=by decide +kernel
 have:=pfB_pf (h' ⟨n-1850,by omega⟩)
 simpa only [show 1850+(n-1850)=n by omega] using this
theorem two_pf {n:Nat} (h:n<60):PF (twoT n)∧(twoT n).length≤2:=by
 have h':∀n:Fin 60,pfB (twoT n.val) 2=true:=by decide +kernel
 exact pfB_pf (h' ⟨n,h⟩)
theorem PF.app {a b:List UInt8} (ha:PF a) (hb:∀c ∈ b,plC c=true):PF (a++b):=⟨fun e=>ha.1 (List.append_eq_nil_iff.1 e).1,fun c hc=>by
 rcases List.mem_append.1 hc with hc|hc
 ·exact ha.2 c hc
 ·exact hb c hc⟩
theorem PF.pre {a b:List UInt8} (hb:PF b) (ha:∀c ∈ a,plC c=true):PF (a++b):=⟨fun e=>hb.1 (List.append_eq_nil_iff.1 e).2,fun c hc=>by
 rcases List.mem_append.1 hc with hc|hc
 ·exact ha c hc
 ·exact hb.2 c hc⟩
theorem off_pf {n:Nat} (h:n≤604799):PF (offT n)∧(offT n).length≤10:=by
 obtain ⟨a1,a2⟩:=dig_pf (n:=n / 3600) (by omega);obtain ⟨b1,b2⟩:=two_pf (n:=n / 60 % 60) (by omega);obtain ⟨c1,c2⟩:=two_pf (n:=n % 60) (by omega);unfold offT;refine ⟨(((a1.app (by simp;decide)).app b1.2).app ?_),?_⟩
 ·split
  ·intro c hc
   rcases List.mem_append.1 hc with hc|hc
   ·rw [List.mem_singleton.1 hc];decide
   ·exact c1.2 c hc
  ·simp
 ·simp only [List.length_append,List.length_singleton]
  split
  ·simp only [List.length_append,List.length_singleton];omega
  ·simp;omega
theorem sign_pl (x:Int):∀c ∈ (if x<0 then [45] else []:List UInt8),plC c=true:=by
 split
 ·simp;decide
 ·simp
theorem sign_le (x:Int):(if x<0 then [45] else []:List UInt8).length≤1:=by split<;>simp
theorem offx_pf {x:Int} (h : -604799≤x∧x≤604799):PF (offTx x)∧(offTx x).length≤11:=by
 obtain ⟨a1,a2⟩:=off_pf (n:=x.natAbs) (by omega);have:=sign_le x;unfold offTx;exact ⟨a1.pre (sign_pl x),by rw [List.length_append];omega⟩
theorem clock_pf {x b:Int} (h:clockOk x b=true):PF (clockT x b)∧(clockT x b).length≤12:=by
 unfold clockOk at h;rw [Bool.and_eq_true,decide_eq_true_eq,decide_eq_true_eq] at h;obtain ⟨a1,a2⟩:=off_pf (n:=x.natAbs) (by omega);have:=sign_le x;unfold clockT;refine ⟨(a1.pre (sign_pl x)).app ?_,?_⟩
 ·split
  ·simp;decide
  ·split
   ·simp;decide
   ·simp
 ·have e:(if b=1 then [115] else if b=2 then [117] else []:List UInt8).length≤1:=by
   split
   ·simp
   ·split<;>simp
  simp only [List.length_append]
  omega
theorem month_pf {m:Int} (h:1≤m∧m≤12):PF (monthT m)∧(monthT m).length≤3:=by
 obtain ⟨n,rfl⟩:=Int.eq_ofNat_of_zero_le (show 0≤m by omega);have h':∀n:Fin 13,1≤n.val→pfB (monthT (n.val:Int)) 3=true:=by decide +kernel
 exact pfB_pf (h' ⟨n,by omega⟩ (by show 1≤n;omega))
theorem week_pf {m:Int} (h:0≤m∧m≤6):PF (weekT m)∧(weekT m).length≤3:=by
 obtain ⟨n,rfl⟩:=Int.eq_ofNat_of_zero_le (show 0≤m by omega);have h':∀n:Fin 7,pfB (weekT (n.val:Int)) 3=true:=by decide +kernel
 exact pfB_pf (h' ⟨n,by omega⟩)
theorem day_pf {k wk d:Int} (h:rightDay k wk d=true):PF (dayText k wk d)∧(dayText k wk d).length≤9:=by
 have hb:1≤k∧k≤4∧0≤wk∧wk≤6∧0≤d∧d≤31:=by
  simp [rightDay] at h
  omega
 obtain ⟨a1,a2⟩:=dig_pf (n:=d.toNat) (by omega);obtain ⟨b1,b2⟩:=week_pf (m:=wk) (by omega);unfold dayText
 split
 ·exact ⟨a1,by omega⟩
 ·split
  ·exact ⟨b1.pre (by decide),by simp;omega⟩
  ·split
   ·exact ⟨(b1.app (by decide)).app a1.2,by simp;omega⟩
   ·exact ⟨(b1.app (by decide)).app a1.2,by simp;omega⟩
theorem year_pf {y:Int} (h:namedB y=true):PF (Lib.itoa y)∧(Lib.itoa y).length≤4:=by
 have h:=of_decide_eq_true h;unfold Lib.itoa;rw [if_neg (by omega)];exact ydig_pf (by omega) (by omega)
theorem pf_of (l:List UInt8) (n:Nat) (h:pfB l n=true):PF l∧l.length≤n:=pfB_pf h
theorem last_pf {f t:Int} (h:namedB t=true∨t=1048576):PF (lastT f t)∧(lastT f t).length≤4:=by
 unfold lastT
 split
 ·exact pf_of _ _ (by decide)
 ·split
  ·exact pf_of _ _ (by decide)
  ·exact year_pf (h.resolve_right (by assumption))
theorem lett_pf {l:List UInt8} (h:l=[]∨ofB 1 4 1 l=true):PF (lettT l)∧(lettT l).length≤4:=by
 unfold lettT
 split
 ·exact pf_of _ _ (by decide)
 ·have h:=h.resolve_left (by assumption)
  refine ⟨ofB_pf h (by omega),?_⟩;unfold ofB at h;rw [Bool.and_eq_true,decide_eq_true_eq] at h;exact h.1.2
theorem fmt_pf {l:List UInt8} (h:fmtB l=true):PF l∧l.length≤20:=by
 unfold fmtB at h;rw [Bool.and_eq_true,List.all_eq_true,decide_eq_true_eq] at h;refine ⟨⟨fun e=>by rw [e] at h;simp at h,fun c hc=>?_⟩,h.1.2⟩;have:=h.2 c hc;unfold fmtC at this;rw [decide_eq_true_eq] at this;unfold plC;simp only [Bool.and_eq_true,decide_eq_true_eq];refine ⟨⟨⟨this.1,this.2.1⟩,fun e=>?_⟩,fun e=>?_⟩
 ·rw [e] at this;exact this.2.2.2 rfl
 ·rw [e] at this;exact this.2.2.1 rfl
theorem rule_pf {r:RuleP} (h:RuleRight r):∀y ∈ ruleB::ruleFs r,PF y:=by
 intro y hy;simp only [ruleFs,List.mem_cons,List.not_mem_nil,or_false] at hy
 rcases hy with rfl|rfl|rfl|rfl|rfl|rfl|rfl|rfl|rfl|rfl
 ·exact (pf_of _ 4 (by decide)).1
 ·exact set_pf h.name
 ·exact (year_pf h.frm).1
 ·exact (last_pf h.til).1
 ·exact (pf_of _ 1 (by decide)).1
 ·exact (month_pf h.mon).1
 ·exact (day_pf h.day).1
 ·exact (clock_pf h.hour).1
 ·exact (offx_pf h.save).1
 ·exact (lett_pf h.lett).1
theorem ruleBk_len {r:RuleP} (h:RuleRight r):(ruleT r).length≤100:=by
 have h1:=setBk_len h.name;have h2:=(year_pf h.frm).2;have h3:=(last_pf (f:=r.frm) h.til).2;have h4:=(month_pf h.mon).2;have h5:=(day_pf h.day).2;have h6:=(clock_pf h.hour).2;have h7:=(offx_pf h.save).2;have h8:=(lett_pf h.lett).2;unfold ruleT ruleFs;rw [joinS_flat];simp only [List.length_append,List.flatMap_cons,List.flatMap_nil,List.length_cons,List.length_nil,List.append_nil];have:ruleB.length=4:=rfl
 omega
theorem by_pf {e:EraP} (h:EraRight e):PF (byT e)∧(byT e).length≤30:=by
 unfold byT
 split
 ·have:=offx_pf (h.save1 (by assumption))
  exact ⟨this.1,by omega⟩
 ·split
  ·have:=h.set2 (by assumption)
   exact ⟨set_pf this,setBk_len this⟩
  ·exact ⟨(pf_of _ 1 (by decide)).1,by simp⟩
theorem until_pf {u:UntilP} (h:UntilRight u):(∀y ∈ untilFs u,PF y)∧((untilFs u).flatMap fun x=>32::x).length≤32:=by
 unfold untilFs
 split
 ·exact ⟨by simp,by simp⟩
 ·rename_i hi
  have hi:u.is=true:=by simpa using hi
  obtain ⟨a1,a2⟩:=year_pf (h.year hi);obtain ⟨b1,b2⟩:=month_pf (h.mon hi);obtain ⟨c1,c2⟩:=day_pf (h.day hi);obtain ⟨d1,d2⟩:=clock_pf (h.hour hi);refine ⟨fun y hy=>?_,?_⟩
  ·rcases List.mem_append.1 hy with hy|hy
   ·rcases List.mem_append.1 hy with hy|hy
    ·rcases List.mem_append.1 hy with hy|hy
     ·rw [List.mem_singleton.1 hy];exact a1
     ·split at hy
      ·rw [List.mem_singleton.1 hy];exact b1
      ·simp at hy
    ·split at hy
     ·rw [List.mem_singleton.1 hy];exact c1
     ·simp at hy
   ·split at hy
    ·rw [List.mem_singleton.1 hy];exact d1
    ·simp at hy
  ·have e1:∀(b:Prop) [Decidable b] (x:List UInt8),((if b then [x] else []).flatMap fun x=>32::x).length≤x.length+1:=fun b _ x=>by split<;>simp
   have k1:=e1 (1≤lastN u) (monthT u.mon);have k2:=e1 (2≤lastN u) (dayText u.day.1 u.day.2.1 u.day.2.2);have k3:=e1 (3≤lastN u) (clockT u.hour.1 u.hour.2);rw [List.flatMap_append,List.flatMap_append,List.flatMap_append,List.length_append,List.length_append,List.length_append];simp only [List.flatMap_cons,List.flatMap_nil,List.append_nil,List.length_cons]
   omega
theorem era_pf {e:EraP} (h:EraRight e):∀y ∈ eraFs e,PF y:=by
 intro y hy;unfold eraFs at hy
 rcases List.mem_append.1 hy with hy|hy
 ·simp only [List.mem_cons,List.not_mem_nil,or_false] at hy
  rcases hy with rfl|rfl|rfl
  ·exact (offx_pf h.off).1
  ·exact (by_pf h).1
  ·exact (fmt_pf h.fmt).1
 ·exact (until_pf h.til).1 y hy
theorem era_len {e:EraP} (h:EraRight e):(eraT e).length≤100:=by
 have h1:=(offx_pf h.off).2;have h2:=(by_pf h).2;have h3:=(fmt_pf h.fmt).2;have h4:=(until_pf h.til).2;unfold eraT eraFs;rw [show [offTx e.off,byT e,e.fmt]++untilFs e.til=offTx e.off::byT e::e.fmt::untilFs e.til from rfl,joinS_flat];simp only [List.length_append,List.flatMap_cons,List.length_cons]
 omega
def readF:RdP→Int→List (List (List UInt8))→RdP × Int × Int
 | st,_,[]=>(st,0,0)
 | st,n,f::l=>if (fieldsS st n f).2≠0 then (st,n,(fieldsS st n f).2) else readF (fieldsS st n f).1 (n+1) l
theorem readF_step {st st':RdP} {n:Int} {f:List (List UInt8)} (h:fieldsS st n f=(st',0)) (l:List (List (List UInt8))):readF st n (f::l)=readF st' (n+1) l:=by
 rw [readF,h]
 rfl
theorem readF_pads:∀(g:Nat) (st:RdP) (n:Int) (l:List (List (List UInt8))),readF st n (List.replicate g []++l)=readF st (n+g) l
 | 0,st,n,l=>by simp
 | g+1,st,n,l=>by
  rw [List.replicate_succ,List.cons_append,readF_step (st':=st) rfl,readF_pads g]
  congr 1
  omega
def spread (g:Nat) (l:List (List (List UInt8))):List (List (List UInt8)):=l.flatMap fun f=>f::List.replicate g []
theorem spread_cons (g:Nat) (f:List (List UInt8)) (l:List (List (List UInt8))):spread g (f::l)=f::(List.replicate g []++spread g l):=by simp [spread]
theorem spread_app (g:Nat) (a b:List (List (List UInt8))):spread g (a++b)=spread g a++spread g b:=by simp [spread]
theorem readF_one {st st':RdP} {n:Int} {f:List (List UInt8)} (h:fieldsS st n f=(st',0)) (g:Nat) (l rest:List (List (List UInt8))):readF st n (spread g (f::l)++rest)=readF st' (n+(g+1:Nat)) (spread g l++rest):=by
 rw [spread_cons,List.cons_append,readF_step h,List.append_assoc,readF_pads]
 congr 1
 omega
def nums (n:Int) (k:Nat):Nat→List Int
 | 0=>[]
 | j+1=>n::nums (n+k) k j
theorem nums_len (k:Nat):∀(j:Nat) (n:Int),(nums n k j).length=j
 | 0,_=>rfl
 | j+1,n=>by rw [nums,List.length_cons,nums_len k j]
theorem rule_word (f:List (List UInt8)) (st:RdP) (n:Int) (ho:st.op=false):fieldsS st n (ruleB::f)=ruleS st n f:=by
 rw [fieldsS,if_neg (by rw [ho];decide)];unfold wordS;rw [show wordR lineL 1 ruleB=(1,0) from word_rule]
 rfl
theorem readF_rules (g:Nat):∀(rs:List RuleP) (r0:List RuleP) (zs:List ZoneP) (ls:List LinkP) (ss:List (List UInt8)) (n0:List Int) (n1:List (List Int)) (n2 n3:List Int) (n:Int) (rest:List (List (List UInt8))),(∀x ∈ rs,RuleRight x)→r0.length+rs.length≤2000 →
 readF ⟨⟨r0,zs,ls,ss⟩,⟨n0,n1,n2,n3⟩,false⟩ n (spread g (rs.map fun x=>ruleB::ruleFs x)++rest)=readF ⟨⟨r0++rs,zs,ls,ss⟩,⟨n0++nums n (g+1) rs.length,n1,n2,n3⟩,false⟩ (n+((g+1)*rs.length:Nat)) rest
 | [],r0,zs,ls,ss,n0,n1,n2,n3,n,rest,_,_=>by simp [spread,nums]
 | x::rs,r0,zs,ls,ss,n0,n1,n2,n3,n,rest,h,hl=>by
  have e:fieldsS ⟨⟨r0,zs,ls,ss⟩,⟨n0,n1,n2,n3⟩,false⟩ n (ruleB::ruleFs x)=(⟨⟨r0++[x],zs,ls,ss⟩,⟨n0++[n],n1,n2,n3⟩,false⟩,0):=by
   rw [rule_word _ _ _ rfl];unfold ruleS;rw [rule_back (h x (List.mem_cons_self ..))];simp only [List.length_cons] at hl;rw [if_neg (fun hh=>hh rfl),if_neg (by simp only;omega)]
  rw [List.map_cons,readF_one e,readF_rules g rs _ _ _ _ _ _ _ _ _ _ (fun y hy=>h y (List.mem_cons_of_mem _ hy)) (by simp only [List.length_cons,List.length_append,List.length_nil] at hl ⊢;omega)]
  congr 1
  ·simp [nums]
  ·rw [List.length_cons,Nat.mul_succ];omega
theorem readF_links (g:Nat):∀(xs:List LinkP) (rs:List RuleP) (zs:List ZoneP) (l0:List LinkP) (ss:List (List UInt8)) (n0:List Int) (n1:List (List Int)) (n2 n3:List Int) (n:Int) (rest:List (List (List UInt8))),(∀x ∈ xs,linkOk x=true)→l0.length+xs.length≤1000 →
 readF ⟨⟨rs,zs,l0,ss⟩,⟨n0,n1,n2,n3⟩,false⟩ n (spread g (xs.map fun x=>[[76,105,110,107],x.target,x.name])++rest)=readF ⟨⟨rs,zs,l0++xs,ss⟩,⟨n0,n1,n2++nums n (g+1) xs.length,n3⟩,false⟩ (n+((g+1)*xs.length:Nat)) rest
 | [],rs,zs,l0,ss,n0,n1,n2,n3,n,rest,_,_=>by simp [spread,nums]
 | x::xs,rs,zs,l0,ss,n0,n1,n2,n3,n,rest,h,hl=>by
  have e:fieldsS ⟨⟨rs,zs,l0,ss⟩,⟨n0,n1,n2,n3⟩,false⟩ n [[76,105,110,107],x.target,x.name]=(⟨⟨rs,zs,l0++[x],ss⟩,⟨n0,n1,n2++[n],n3⟩,false⟩,0):=by
   rw [fieldsS,if_neg (fun hh=>by cases hh)];unfold wordS;rw [show wordR lineL 1 [76,105,110,107]=(3,0) from word_link];have hx:=h x (List.mem_cons_self ..);unfold linkOk at hx;rw [Bool.and_eq_true] at hx
   have e2:linkR [x.target,x.name]=(x,0):=by
    unfold linkR;rw [if_neg (by simp),if_neg (by simp [hx.1,hx.2])]
    rfl
   rw [if_neg (by decide),if_neg (by decide),if_neg (by decide),if_pos rfl];unfold linkS;rw [e2];simp only [List.length_cons] at hl;rw [if_neg (fun hh=>hh rfl),if_neg (by simp only;omega)]
  rw [List.map_cons,readF_one e,readF_links g xs _ _ _ _ _ _ _ _ _ _ (fun y hy=>h y (List.mem_cons_of_mem _ hy)) (by simp only [List.length_cons,List.length_append,List.length_nil] at hl ⊢;omega)]
  congr 1
  ·simp [nums]
  ·rw [List.length_cons,Nat.mul_succ];omega
theorem readF_shifts (g:Nat):∀(xs:List (List UInt8)) (rs:List RuleP) (zs:List ZoneP) (ls:List LinkP) (s0:List (List UInt8)) (n0:List Int) (n1:List (List Int)) (n2 n3:List Int) (n:Int) (rest:List (List (List UInt8))),(∀x ∈ xs,setB x=true)→s0.length+xs.length≤2000 →
 readF ⟨⟨rs,zs,ls,s0⟩,⟨n0,n1,n2,n3⟩,false⟩ n (spread g (xs.map fun x=>[[83,104,105,102,116],x])++rest)=readF ⟨⟨rs,zs,ls,s0++xs⟩,⟨n0,n1,n2,n3++nums n (g+1) xs.length⟩,false⟩ (n+((g+1)*xs.length:Nat)) rest
 | [],rs,zs,ls,s0,n0,n1,n2,n3,n,rest,_,_=>by simp [spread,nums]
 | x::xs,rs,zs,ls,s0,n0,n1,n2,n3,n,rest,h,hl=>by
  have e:fieldsS ⟨⟨rs,zs,ls,s0⟩,⟨n0,n1,n2,n3⟩,false⟩ n [[83,104,105,102,116],x]=(⟨⟨rs,zs,ls,s0++[x]⟩,⟨n0,n1,n2,n3++[n]⟩,false⟩,0):=by
   rw [fieldsS,if_neg (fun hh=>by cases hh)];unfold wordS;rw [show wordR lineL 1 [83,104,105,102,116]=(4,0) from word_shift];have hx:=h x (List.mem_cons_self ..)
   have e2:shiftR [x]=(x,0):=by
    unfold shiftR;rw [if_neg (by simp),if_neg (by simp [hx])]
    rfl
   rw [if_neg (by decide),if_neg (by decide),if_neg (by decide),if_neg (by decide)];unfold shiftS;rw [e2];simp only [List.length_cons] at hl;rw [if_neg (fun hh=>hh rfl),if_neg (by simp only;omega)]
  rw [List.map_cons,readF_one e,readF_shifts g xs _ _ _ _ _ _ _ _ _ _ (fun y hy=>h y (List.mem_cons_of_mem _ hy)) (by simp only [List.length_cons,List.length_append,List.length_nil] at hl ⊢;omega)]
  congr 1
  ·simp [nums]
  ·rw [List.length_cons,Nat.mul_succ];omega
theorem eraS_last {e:EraP} (h:EraRight e) (rs:List RuleP) (zs:List ZoneP) (nm:List UInt8) (es:List EraP) (ls:List LinkP) (ss:List (List UInt8)) (n0:List Int) (n1:List (List Int)) (l:List Int) (n2 n3:List Int) (o:Bool) (n:Int) (hz:zs.length=n1.length) (he:es.length<60) :
 eraS ⟨⟨rs,zs++[⟨nm,es⟩],ls,ss⟩,⟨n0,n1++[l],n2,n3⟩,o⟩ n (eraFs e)=(⟨⟨rs,zs++[⟨nm,es++[e]⟩],ls,ss⟩,⟨n0,n1++[l++[n]],n2,n3⟩,e.til.is⟩,0):=by
 unfold eraS;rw [era_back h];have a1:(zs++[(⟨nm,es⟩:ZoneP)]).length-1=zs.length:=by simp
 have a2:(zs++[(⟨nm,es⟩:ZoneP)]).getD zs.length ⟨[],[]⟩=⟨nm,es⟩:=by simp [List.getD_eq_getElem?_getD]
 have a3:(n1++[l]).getD zs.length []=l:=by rw [hz];simp [List.getD_eq_getElem?_getD]
 have a4:∀z,(zs++[(⟨nm,es⟩:ZoneP)]).set zs.length z=zs++[z]:=fun z=>by rw [List.set_append_right _ _ (Nat.le_refl _)];simp
 have a5:∀z,(n1++[l]).set zs.length z=n1++[z]:=fun z=>by rw [hz,List.set_append_right _ _ (Nat.le_refl _)];simp
 rw [if_neg (fun hh=>hh rfl)];simp only [a1,a2,a3,a4,a5];rw [if_neg (by omega)]
theorem fields_open {st:RdP} (ho:st.op=true) (n:Int) {f:List (List UInt8)} (hf:f≠[]):fieldsS st n f=eraS st n f:=by
 cases f with
 | nil=>exact absurd rfl hf
 | cons a f=>rw [fieldsS,if_pos ho]
theorem eraFsBk_ne (e:EraP):eraFs e≠[]:=by unfold eraFs;simp
theorem readF_eras (g:Nat):∀(xs:List EraP) (rs:List RuleP) (zs:List ZoneP) (nm:List UInt8) (es:List EraP) (ls:List LinkP) (ss:List (List UInt8)) (n0:List Int) (n1:List (List Int)) (l:List Int) (n2 n3:List Int) (n:Int) (rest:List (List (List UInt8))),xs≠[]→endsB xs=true→(∀x ∈ xs,EraRight x)→zs.length=n1.length→es.length+xs.length≤60 →
 readF ⟨⟨rs,zs++[⟨nm,es⟩],ls,ss⟩,⟨n0,n1++[l],n2,n3⟩,true⟩ n (spread g (xs.map eraFs)++rest)=readF ⟨⟨rs,zs++[⟨nm,es++xs⟩],ls,ss⟩,⟨n0,n1++[l++nums n (g+1) xs.length],n2,n3⟩,false⟩ (n+((g+1)*xs.length:Nat)) rest
 | [],rs,zs,nm,es,ls,ss,n0,n1,l,n2,n3,n,rest,hne,_,_,_,_=>absurd rfl hne
 | [x],rs,zs,nm,es,ls,ss,n0,n1,l,n2,n3,n,rest,_,hen,h,hz,hl=>by
  have hi:x.til.is=false:=by simpa [endsB] using hen
  have e:=fields_open (st:=⟨⟨rs,zs++[⟨nm,es⟩],ls,ss⟩,⟨n0,n1++[l],n2,n3⟩,true⟩) rfl n (eraFsBk_ne x);rw [eraS_last (h x (List.mem_cons_self ..)) rs zs nm es ls ss n0 n1 l n2 n3 true n hz (by simp at hl;omega),hi] at e;rw [List.map_cons,readF_one e]
  simp [spread,nums]
 | x::y::xs,rs,zs,nm,es,ls,ss,n0,n1,l,n2,n3,n,rest,_,hen,h,hz,hl=>by
  have hen:x.til.is=true∧endsB (y::xs)=true:=by simpa [endsB] using hen
  have e:=fields_open (st:=⟨⟨rs,zs++[⟨nm,es⟩],ls,ss⟩,⟨n0,n1++[l],n2,n3⟩,true⟩) rfl n (eraFsBk_ne x);rw [eraS_last (h x (List.mem_cons_self ..)) rs zs nm es ls ss n0 n1 l n2 n3 true n hz (by simp at hl;omega),hen.1] at e;rw [List.map_cons,readF_one e,readF_eras g (y::xs) _ _ _ _ _ _ _ _ _ _ _ _ _ (by simp) hen.2 (fun z hz=>h z (List.mem_cons_of_mem _ hz)) hz (by simp only [List.length_cons,List.length_append,List.length_nil] at hl ⊢;omega)]
  congr 1
  ·simp [nums]
  ·simp only [List.length_cons,Nat.mul_succ];omega
def zoneFs (z:ZoneP):List (List (List UInt8)):=match z.eras with
 | []=>[]
 | e::es=>([90,111,110,101]::z.name::eraFs e)::es.map eraFs
theorem zoneFs_len (z:ZoneP):(zoneFs z).length=z.eras.length:=by
 unfold zoneFs
 cases z.eras<;>simp
theorem readF_zone (g:Nat) (z:ZoneP) (hz:zoneOk z=true) (hl:z.eras.length≤60) (rs:List RuleP) (zs:List ZoneP) (ls:List LinkP) (ss:List (List UInt8)) (n0:List Int) (n1:List (List Int)) (n2 n3:List Int) (n:Int) (rest:List (List (List UInt8))) (hn:zs.length=n1.length) (h5:zs.length<500) :
 readF ⟨⟨rs,zs,ls,ss⟩,⟨n0,n1,n2,n3⟩,false⟩ n (spread g (zoneFs z)++rest)=readF ⟨⟨rs,zs++[z],ls,ss⟩,⟨n0,n1++[nums n (g+1) z.eras.length],n2,n3⟩,false⟩ (n+((g+1)*z.eras.length:Nat)) rest:=by
 obtain ⟨nm,es⟩:=z;unfold zoneOk at hz;simp only [Bool.and_eq_true,List.all_eq_true,Bool.not_eq_true',List.isEmpty_eq_false_iff] at hz hl ⊢;obtain ⟨⟨⟨h1,h2⟩,h3⟩,h4⟩:=hz
 cases es with
 | nil=>exact absurd rfl h2
 | cons x xs =>
  have hx:EraRight x:=(eraOk_iff x).1 (h4 x (List.mem_cons_self ..));have hxs:∀y ∈ xs,EraRight y:=fun y hy=>(eraOk_iff y).1 (h4 y (List.mem_cons_of_mem _ hy))
  have e:fieldsS ⟨⟨rs,zs,ls,ss⟩,⟨n0,n1,n2,n3⟩,false⟩ n ([90,111,110,101]::nm::eraFs x)=(⟨⟨rs,zs++[⟨nm,[x]⟩],ls,ss⟩,⟨n0,n1++[[n]],n2,n3⟩,x.til.is⟩,0):=by
   rw [fieldsS,if_neg (fun hh=>by cases hh)];unfold wordS;rw [show wordR lineL 1 [90,111,110,101]=(2,0) from word_zone];rw [if_neg (by decide),if_neg (by decide),if_pos rfl,zoneS,if_neg (by rw [h1];decide)];have e2:=eraS_last hx rs zs nm [] ls ss n0 n1 [] n2 n3 false n hn (by decide);simp only [List.nil_append] at e2;rw [show RdP.zone ⟨⟨rs,zs,ls,ss⟩,⟨n0,n1,n2,n3⟩,false⟩ nm=⟨⟨rs,zs++[⟨nm,[]⟩],ls,ss⟩,⟨n0,n1++[[]],n2,n3⟩,false⟩ from rfl,e2];rw [if_neg (fun hh=>hh rfl),if_neg (by simp only;omega)]
  unfold zoneFs;rw [readF_one e]
  cases xs with
  | nil =>
   have hi:x.til.is=false:=by simpa [endsB] using h3
   rw [hi]
   simp [spread,nums]
  | cons y xs =>
   have h3:x.til.is=true∧endsB (y::xs)=true:=by simpa [endsB] using h3
   rw [h3.1,readF_eras g (y::xs) rs zs nm [x] ls ss n0 n1 [n] n2 n3 _ rest (by simp) h3.2 hxs hn (by simp only [List.length_cons] at hl ⊢;simp;omega)]
   congr 1
   ·simp only [List.length_cons,Nat.mul_succ];omega
def numss (n:Int) (k:Nat):List Nat→List (List Int)
 | []=>[]
 | j::l=>nums n k j::numss (n+(k*j:Nat)) k l
theorem numss_len (k:Nat):∀(l:List Nat) (n:Int),(numss n k l).length=l.length
 | [],_=>rfl
 | j::l,n=>by rw [numss,List.length_cons,numss_len k l,List.length_cons]
theorem readF_zones (g:Nat):∀(xs:List ZoneP) (rs:List RuleP) (zs:List ZoneP) (ls:List LinkP) (ss:List (List UInt8)) (n0:List Int) (n1:List (List Int)) (n2 n3:List Int) (n:Int) (rest:List (List (List UInt8))),(∀z ∈ xs,zoneOk z=true∧z.eras.length≤60)→zs.length=n1.length→zs.length+xs.length≤500 →
 readF ⟨⟨rs,zs,ls,ss⟩,⟨n0,n1,n2,n3⟩,false⟩ n (spread g (xs.flatMap zoneFs)++rest)=readF ⟨⟨rs,zs++xs,ls,ss⟩,⟨n0,n1++numss n (g+1) (xs.map fun z=>z.eras.length),n2,n3⟩,false⟩ (n+((g+1)*(xs.flatMap zoneFs).length:Nat)) rest
 | [],rs,zs,ls,ss,n0,n1,n2,n3,n,rest,_,_,_=>by simp [spread,numss]
 | x::xs,rs,zs,ls,ss,n0,n1,n2,n3,n,rest,h,hn,hl=>by
  have hx:=h x (List.mem_cons_self ..);simp only [List.length_cons] at hl;rw [List.flatMap_cons,spread_app,List.append_assoc,readF_zone g x hx.1 hx.2 rs zs ls ss n0 n1 n2 n3 n _ hn (by omega),readF_zones g xs _ _ _ _ _ _ _ _ _ _ (fun y hy=>h y (List.mem_cons_of_mem _ hy)) (by simp [hn]) (by simp;omega)]
  congr 1
  ·simp [numss]
  ·rw [List.length_append,zoneFs_len,Nat.mul_add];omega
def srcFs (s:SourceP):List (List (List UInt8)):=(s.rules.map fun x=>ruleB::ruleFs x)++(s.zones.flatMap zoneFs)++(s.links.map fun x=>[[76,105,110,107],x.target,x.name])++(s.shifts.map fun x=>[[83,104,105,102,116],x])
def srcNs (k:Nat) (s:SourceP):LinesP :=
 ⟨nums 1 k s.rules.length,numss (1+(k*s.rules.length:Nat)) k (s.zones.map fun z=>z.eras.length),nums (1+(k*s.rules.length:Nat)+(k*(s.zones.flatMap zoneFs).length:Nat)) k s.links.length,
  nums (1+(k*s.rules.length:Nat)+(k*(s.zones.flatMap zoneFs).length:Nat)+(k*s.links.length:Nat)) k s.shifts.length⟩
structure SrcFew (s:SourceP):Prop where
 rules:s.rules.length≤2000
 zones:s.zones.length≤500
 links:s.links.length≤1000
 shifts:s.shifts.length≤2000
 eras:∀z ∈ s.zones,z.eras.length≤60
theorem readF_src (g:Nat) {s:SourceP} (h:SrcRight s) (hf:SrcFew s):readF RdP.none 1 (spread g (srcFs s))=(⟨s,srcNs (g+1) s,false⟩,0,0):=by
 obtain ⟨rs,zs,ls,ss⟩:=s;unfold srcFs;have e1:=readF_rules g rs [] [] [] [] [] [] [] [] 1 (spread g (zs.flatMap zoneFs)++(spread g (ls.map fun x=>[[76,105,110,107],x.target,x.name])++(spread g (ss.map fun x=>[[83,104,105,102,116],x])++[]))) (fun x hx=>(ruleOk_iff x).1 (h.rules x hx)) (by have:=hf.rules;simpa using this)
 rw [readF_zones g zs _ _ _ _ _ _ _ _ _ _ (fun z hz=>⟨h.zones z hz,hf.eras z hz⟩) rfl (by have:=hf.zones;simpa using this),
  readF_links g ls _ _ _ _ _ _ _ _ _ _ h.links (by have:=hf.links;simpa using this),readF_shifts g ss _ _ _ _ _ _ _ _ _ _ h.shifts (by have:=hf.shifts;simpa using this)] at e1
 simp only [spread_app,List.append_assoc,List.append_nil,List.nil_append] at e1 ⊢;exact e1
theorem plC_nl {c:UInt8} (h:plC c=true):c≠10:=fun e=>by rw [e] at h;revert h;decide
theorem join_no {l:List (List UInt8)} (h:∀y ∈ l,PF y):(10:UInt8) ∉ joinS l:=by
 cases l with
 | nil=>simp [joinS]
 | cons x l =>
  rw [joinS_flat];intro hm
  rcases List.mem_append.1 hm with hm|hm
  ·exact plC_nl ((h x (List.mem_cons_self ..)).2 _ hm) rfl
  ·obtain ⟨y,hy,hm⟩:=List.mem_flatMap.1 hm
   rcases List.mem_cons.1 hm with hm|hm
   ·cases hm
   ·exact plC_nl ((h y (List.mem_cons_of_mem _ hy)).2 _ hm) rfl
theorem parts0_lines:∀(ls:List (List UInt8)) (y:List UInt8) (b:Bool),(∀x ∈ ls,(10:UInt8) ∉ x)→parts0 b (linesT ls++y)=ls++parts0 (b || !ls.isEmpty) y
 | [],y,b,_=>by simp [linesT]
 | x::ls,y,b,h=>by
  have e:linesT (x::ls)++y=x++10::(linesT ls++y):=by simp [linesT]
  rw [e,parts0_cons b (h x (List.mem_cons_self ..)),parts0_lines ls y true fun z hz=>h z (List.mem_cons_of_mem _ hz)]
  simp
theorem parts0_end {y:List UInt8} (b:Bool) (hy:(10:UInt8) ∉ y):parts0 b y=if b=true∧y=[] then [] else [y]:=by
 unfold parts0
 split
 ·rfl
 ·rw [trimNl_none hy,nlParts_one hy]
theorem longAt_none:∀(l:List (List UInt8)) (k:Nat),(∀x ∈ l,x.length≤300)→longAt k l=none
 | [],_,_=>rfl
 | x::l,k,h=>by
  have:=h x (List.mem_cons_self ..);rw [longAt,if_neg (by omega)];exact longAt_none l _ fun y hy=>h y (List.mem_cons_of_mem _ hy)
theorem nlR_ok {s:List UInt8} (h:s.length≤8388608) (hl:∀x ∈ parts0 false s,x.length≤300):nlR s=(parts0 false s,0,0):=by
 have e:parts0 false s=nlParts (trimNl s):=by unfold parts0;rw [if_neg (by simp)]
 unfold nlR;rw [e] at hl ⊢;rw [if_neg (by omega),longAt_none _ _ hl]
theorem readF_app:∀(a b:List (List (List UInt8))) (st:RdP) (n:Int),readF st n (a++b)=if (readF st n a).2.2≠0 then readF st n a else readF (readF st n a).1 (n+a.length) b
 | [],b,st,n=>by simp [readF]
 | f::a,b,st,n=>by
  have e:n+((f::a).length:Int)=n+1+(a.length:Int):=by rw [List.length_cons];omega
  rw [List.cons_append,readF,readF,e]
  split
  ·rfl
  ·exact readF_app a b _ _
theorem zone_join (nm:List UInt8) (e:EraP):[90,111,110,101,32]++nm++[32]++eraT e=joinS ([90,111,110,101]::nm::eraFs e):=by
 unfold eraT;rw [show eraFs e=offTx e.off::byT e::e.fmt::untilFs e.til from rfl,joinS_flat,joinS_flat]
 simp
theorem zone_fs {nm:List UInt8} {e:EraP} (hn:zoneB nm=true) (h:EraRight e):∀y ∈ [90,111,110,101]::nm::eraFs e,PF y:=by
 intro y hy
 rcases List.mem_cons.1 hy with rfl|hy
 ·exact (pf_of _ 4 (by decide)).1
 ·rcases List.mem_cons.1 hy with rfl|hy
  ·exact zone_pf hn
  ·exact era_pf h y hy
theorem link_join (x:LinkP):linkT x=joinS [[76,105,110,107],x.target,x.name]:=by
 unfold linkT
 simp [joinS]
theorem shift_join (x:List UInt8):shiftT x=joinS [[83,104,105,102,116],x]:=by
 unfold shiftT
 simp [joinS]
theorem link_fs {x:LinkP} (h:linkOk x=true):∀y ∈ [[76,105,110,107],x.target,x.name],PF y:=by
 unfold linkOk at h;rw [Bool.and_eq_true] at h;intro y hy;simp only [List.mem_cons,List.not_mem_nil,or_false] at hy
 rcases hy with rfl|rfl|rfl
 ·exact (pf_of _ 4 (by decide)).1
 ·exact zone_pf h.1
 ·exact zone_pf h.2
theorem shift_fs {x:List UInt8} (h:setB x=true):∀y ∈ [[83,104,105,102,116],x],PF y:=by
 intro y hy;simp only [List.mem_cons,List.not_mem_nil,or_false] at hy
 rcases hy with rfl|rfl
 ·exact (pf_of _ 5 (by decide)).1
 ·exact set_pf h
structure LineIs (x:List UInt8) (f:List (List UInt8)):Prop where
 no:(10:UInt8) ∉ x
 len:x.length≤300
 fields:fieldsR x=(f,0)
theorem LineIs.join {l:List (List UInt8)} (h:∀y ∈ l,PF y) (hl:(joinS l).length≤300):LineIs (joinS l) l:=⟨join_no h,hl,fields_join h hl⟩
theorem line_rule {r:RuleP} (h:ruleOk r=true):LineIs (ruleT r) (ruleB::ruleFs r):=by
 have h:=(ruleOk_iff r).1 h;have:=ruleBk_len h;exact LineIs.join (rule_pf h) (by show (ruleT r).length≤300;omega)
theorem line_zone {nm:List UInt8} {e:EraP} (hn:zoneB nm=true) (h:eraOk e=true):LineIs ([90,111,110,101,32]++nm++[32]++eraT e) ([90,111,110,101]::nm::eraFs e):=by
 have h:=(eraOk_iff e).1 h;have h1:=era_len h;have h2:=zoneBk_len hn;have:=LineIs.join (zone_fs hn h) (by rw [←zone_join];simp only [List.length_append,List.length_cons,List.length_nil];omega);rwa [←zone_join] at this
theorem line_era0 {e:EraP} (h:eraOk e=true):LineIs (eraT e) (eraFs e):=by
 have h:=(eraOk_iff e).1 h;have h1:=era_len h;exact LineIs.join (era_pf h) (by show (eraT e).length≤300;omega)
theorem line_link {x:LinkP} (h:linkOk x=true):LineIs (linkT x) [[76,105,110,107],x.target,x.name]:=by
 have h':=h;unfold linkOk at h';rw [Bool.and_eq_true] at h';have h1:=zoneBk_len h'.1;have h2:=zoneBk_len h'.2;have:=LineIs.join (link_fs h) (by rw [←link_join];unfold linkT;simp only [List.length_append,List.length_cons,List.length_nil];omega);rwa [←link_join] at this
theorem line_shift {x:List UInt8} (h:setB x=true):LineIs (shiftT x) [[83,104,105,102,116],x]:=by
 have h1:=setBk_len h;have:=LineIs.join (shift_fs h) (by rw [←shift_join];unfold shiftT;simp only [List.length_append,List.length_cons,List.length_nil];omega);rwa [←shift_join] at this
inductive LinesAre:List (List UInt8)→List (List (List UInt8))→Prop
 | nil:LinesAre [] []
 | cons {x f l fs} : LineIs x f→LinesAre l fs→LinesAre (x::l) (f::fs)
theorem LinesAre.app {a b:List (List UInt8)} {fa fb:List (List (List UInt8))} (h:LinesAre a fa) (h':LinesAre b fb):LinesAre (a++b) (fa++fb):=by
 induction h with
 | nil=>exact h'
 | cons hx _ ih=>exact .cons hx ih
theorem LinesAre.map {α:Type} {l:List α} {t:α→List UInt8} {f:α→List (List UInt8)} (h:∀x ∈ l,LineIs (t x) (f x)):LinesAre (l.map t) (l.map f):=by
 induction l with
 | nil=>exact .nil
 | cons x l ih=>exact .cons (h x (List.mem_cons_self ..)) (ih fun y hy=>h y (List.mem_cons_of_mem _ hy))
theorem LinesAre.all {l:List (List UInt8)} {fs:List (List (List UInt8))} (h:LinesAre l fs):(∀x ∈ l,(10:UInt8) ∉ x∧x.length≤300∧(fieldsR x).2=0)∧(l.map fun x=>(fieldsR x).1)=fs:=by
 induction h with
 | nil=>exact ⟨by simp,rfl⟩
 | cons hx _ ih =>
  refine ⟨fun y hy=>?_,?_⟩
  ·rcases List.mem_cons.1 hy with rfl|hy
   ·exact ⟨hx.no,hx.len,by rw [hx.fields]⟩
   ·exact ih.1 y hy
  ·rw [List.map_cons,ih.2,hx.fields]
theorem parts0_text {L:List (List UInt8)} {y:List UInt8} (h:∀x ∈ L,(10:UInt8) ∉ x) (hy:(10:UInt8) ∉ y) (hne:y≠[]):parts0 false (linesT L++y)=L++[y]:=by
 rw [parts0_lines L y false h,parts0_end _ hy,if_neg (fun hh=>hne hh.2)]
theorem joinB_nl:∀(L:List (List UInt8)),L≠[]→joinB [10] L=linesT L.dropLast++L.getLast?.getD []
 | [],h=>absurd rfl h
 | [x],_=>by simp [joinB,linesT]
 | x::y::L,_=>by
  have ih:=joinB_nl (y::L) (by simp);rw [show joinB [10] (x::y::L)=x++[10]++joinB [10] (y::L) from rfl,ih,List.dropLast_cons_cons,List.getLast?_cons_cons]
  simp [linesT]
theorem linesT_app (a b:List (List UInt8)):linesT (a++b)=linesT a++linesT b:=by simp [linesT]
theorem LinesAre.last {L:List (List UInt8)} {F:List (List (List UInt8))} (h:LinesAre L F) (hne:L≠[]):LinesAre L.dropLast F.dropLast∧LineIs (L.getLast?.getD []) (F.getLast?.getD [])∧F=F.dropLast++[F.getLast?.getD []]:=by
 induction h with
 | nil=>exact absurd rfl hne
 | @cons x f l fs hx hl ih =>
  cases hl with
  | nil=>exact ⟨.nil,hx,rfl⟩
  | @cons y g l fs hy hl =>
   obtain ⟨i1,i2,i3⟩:=ih (by simp);rw [List.dropLast_cons_cons,List.dropLast_cons_cons,List.getLast?_cons_cons,List.getLast?_cons_cons];exact ⟨.cons hx i1,i2,by rw [List.cons_append,←i3]⟩
theorem fieldsS_zones (st:RdP) (n:Int) (f:List (List UInt8)):st.s.zones.length≤(fieldsS st n f).1.s.zones.length:=by
 have he:∀(st:RdP) f,st.s.zones.length≤(eraS st n f).1.s.zones.length:=fun st f=>by
  unfold eraS
  split
  ·exact Nat.le_refl _
  ·simp
 cases f with
 | nil=>exact Nat.le_refl _
 | cons a f =>
  simp only [fieldsS]
  split
  ·exact he _ _
  ·unfold wordS
   split
   ·exact Nat.le_refl _
   ·split
    ·unfold ruleS;split<;>exact Nat.le_refl _
    ·split
     ·cases f with
      | nil=>exact Nat.le_refl _
      | cons a f =>
       simp only [zoneS]
       split
       ·exact Nat.le_refl _
       ·split
        ·exact Nat.le_refl _
        ·have:=he (st.zone a) f
         have e:(st.zone a).s.zones.length=st.s.zones.length+1:=by simp [RdP.zone]
         simp only
         omega
     ·split
      ·unfold linkS;split<;>exact Nat.le_refl _
      ·unfold shiftS;split<;>exact Nat.le_refl _
theorem readF_zones_le:∀(F:List (List (List UInt8))) (st:RdP) (n:Int),st.s.zones.length≤(readF st n F).1.s.zones.length
 | [],st,n=>Nat.le_refl _
 | f::F,st,n=>by
  rw [readF]
  split
  ·exact Nat.le_refl _
  ·exact Nat.le_trans (fieldsS_zones st n f) (readF_zones_le F _ _)
theorem RdOk.fields {st:RdP} (h:RdOk st) {n:Int} {f:List (List UInt8)} (he:(fieldsS st n f).2=0):RdOk (fieldsS st n f).1:=by
 cases f with
 | nil=>exact h
 | cons a f =>
  simp only [fieldsS] at he ⊢
  by_cases ho:st.op=true
  ·rw [if_pos ho] at he ⊢
   exact h.era (h.op ho) he
  ·rw [if_neg ho] at he ⊢
   unfold wordS at he ⊢
   split
   ·exact h
   ·rename_i hw
    rw [if_neg hw] at he
    split
    ·rename_i h1;rw [if_pos h1] at he;exact h.rule he
    ·rename_i h1
     rw [if_neg h1] at he
     split
     ·rename_i h2;rw [if_pos h2] at he;exact h.zone he
     ·rename_i h2
      rw [if_neg h2] at he
      split
      ·rename_i h3;rw [if_pos h3] at he;exact h.link he
      ·rename_i h3;rw [if_neg h3] at he;exact h.shift he
theorem readF_ok:∀(F:List (List (List UInt8))) (st:RdP) (n:Int),RdOk st→(readF st n F).2.2=0→RdOk (readF st n F).1
 | [],st,n,h,_=>h
 | f::F,st,n,h,he=>by
  rw [readF] at he ⊢
  split
  ·rename_i hc;rw [if_pos hc] at he;exact absurd he hc
  ·rename_i hc
   rw [if_neg hc] at he;simp only [ne_eq,Decidable.not_not] at hc;exact readF_ok F _ _ (h.fields hc) he
theorem readF_head {F:List (List (List UInt8))} {st:RdP} (hr:readF RdP.none 1 F=(st,0,0)) (hz:st.s.zones=[]) (k:Nat):∃st',readF RdP.none 1 (F.take k)=(st',0,0)∧st'.op=false:=by
 have hr2:=hr;rw [←List.take_append_drop k F,readF_app] at hr2
 have h0:(readF RdP.none 1 (F.take k)).2.2=0:=by
  split at hr2
  ·rename_i hc;rw [hr2] at hc;exact absurd rfl hc
  ·rename_i hc;simpa using hc
 rw [if_neg (by rw [h0];decide)] at hr2
 have h1:∀(x:List (List (List UInt8))) (st:RdP) (n:Int),(readF st n x).2.2=0→(readF st n x).2.1=0:=by
  intro x
  induction x with
  | nil=>intros;rfl
  | cons f x ih =>
   intro st n hx;rw [readF] at hx ⊢
   split
   ·rename_i hc;rw [if_pos hc] at hx;exact absurd hx hc
   ·rename_i hc;rw [if_neg hc] at hx;exact ih _ _ hx
 refine ⟨(readF RdP.none 1 (F.take k)).1,Prod.ext rfl (Prod.ext (h1 _ _ _ h0) h0),?_⟩
 cases ho:(readF RdP.none 1 (F.take k)).1.op with
 | false=>rfl
 | true =>
  exfalso
  have h2:=(readF_ok _ _ _ RdOk.none h0).op ho;have h3:=readF_zones_le (F.drop k) (readF RdP.none 1 (F.take k)).1 (1+(F.take k).length);rw [hr2] at h3;have h4:st.s.zones.length=0:=by rw [hz];rfl
  have h5:=List.length_pos_iff.2 h2;simp only at h3
  omega
theorem readS_stop:∀(a:List (List UInt8)) (x:List UInt8) (b:List (List UInt8)) (st:RdP) (n:Int) {st':RdP} {e:Int},(∀y ∈ a,(fieldsR y).2=0)→readF st n (a.map fun y=>(fieldsR y).1)=(st',0,0)→(lineS st' (n+a.length) x).2=e→e≠0→(readS st n (a++x::b)).2=(n+a.length,e)
 | [],x,b,st,n,st',e,_,hr,hx,he=>by
  have:st=st':=congrArg (·.1) hr;subst this;simp only [List.length_nil,Int.natCast_zero,Int.add_zero] at hx ⊢;rw [List.nil_append,readS,hx,if_pos he]
 | y::a,x,b,st,n,st',e,h,hr,hx,he=>by
  have e1:lineS st n y=fieldsS st n (fieldsR y).1:=by
   unfold lineS;rw [if_neg (by rw [h y (List.mem_cons_self ..)];decide)]
  rw [List.map_cons,readF] at hr
  split at hr
  ·rename_i hc
   have:=congrArg (·.2.2) hr;exact absurd this hc
  ·rename_i hc
   have e2:n+((y::a).length:Int)=n+1+(a.length:Int):=by rw [List.length_cons];omega
   rw [List.cons_append,readS,e1,if_neg hc,e2];exact readS_stop a x b _ _ (fun z hz=>h z (List.mem_cons_of_mem _ hz)) hr (by rw [←e2];exact hx) he
theorem srcR_stop {a:List (List UInt8)} {F:List (List (List UInt8))} (ha:LinesAre a F) {x:List UInt8} {b:List (List UInt8)} {s:List UInt8} (hs:parts0 false s=a++x::b) (hl:s.length≤8388608) (hx:x.length≤300) (hb:∀y ∈ b,y.length≤300) {st:RdP} (hr:readF RdP.none 1 F=(st,0,0)) {e:Int} (hbad:(lineS st (1+(a.length:Int)) x).2=e) (he:e≠0):srcR s=((SourceP.none,LinesP.none),(a.length:Int)+1,e):=by
 obtain ⟨h1,h2⟩:=ha.all
 have h3:nlR s=(a++x::b,0,0):=by
  rw [nlR_ok hl (fun y hy=>?_),hs];rw [hs] at hy
  rcases List.mem_append.1 hy with hy|hy
  ·exact (h1 y hy).2.1
  ·rcases List.mem_cons.1 hy with rfl|hy
   ·exact hx
   ·exact hb y hy
 have h4:=readS_stop a x b RdP.none 1 (fun y hy=>(h1 y hy).2.2) (by rw [h2];exact hr) hbad he;unfold srcR;rw [h3];simp only;rw [if_neg (fun hh=>hh rfl),h4,if_pos he,Int.add_comm]
theorem first_law {a:List (List UInt8)} {F:List (List (List UInt8))} (ha:LinesAre a F) {x y:List UInt8} (hx:(10:UInt8) ∉ x) (hxn:x≠[]) (hxl:x.length≤300) (hy:(10:UInt8) ∉ y) (hyl:y.length≤300) (hl:(linesT a++x++[10]++y).length≤8388608) {st:RdP} (hr:readF RdP.none 1 F=(st,0,0)) {e:Int} (hbad:(lineS st (1+(a.length:Int)) x).2=e) (he:e≠0) :
 srcR (linesT a++x)=((SourceP.none,LinesP.none),(a.length:Int)+1,e)∧srcR (linesT a++x++[10]++y)=((SourceP.none,LinesP.none),(a.length:Int)+1,e):=by
 have h1:=ha.all.1;refine ⟨srcR_stop ha (b:=[]) (parts0_text (fun z hz=>(h1 z hz).1) hx hxn) (by simp only [List.length_append] at hl ⊢;omega) hxl (by simp) hr hbad he,?_⟩;have e2:linesT a++x++[10]++y=linesT (a++[x])++y:=by rw [linesT_app];simp [linesT]
 have h2:∀z ∈ a++[x],(10:UInt8) ∉ z:=fun z hz=>by
  rcases List.mem_append.1 hz with hz|hz
  ·exact (h1 z hz).1
  ·rw [List.mem_singleton.1 hz];exact hx
 by_cases hyn:y=[]
 ·refine srcR_stop ha (b:=[]) ?_ hl hxl (by simp) hr hbad he
  rw [e2,hyn,parts0_lines _ _ _ h2]
  simp [parts0]
 ·refine srcR_stop ha (b:=[y]) ?_ hl hxl (by simpa using hyl) hr hbad he
  rw [e2,parts0_text h2 hy hyn]
  simp
theorem LinesAre.take {L:List (List UInt8)} {F:List (List (List UInt8))} (h:LinesAre L F) (k:Nat):LinesAre (L.take k) (F.take k):=by
 induction h generalizing k with
 | nil=>simp;exact .nil
 | cons hx _ ih =>
  cases k with
  | zero=>simp;exact .nil
  | succ k=>rw [List.take_succ_cons,List.take_succ_cons];exact .cons hx (ih k)
theorem LinesAre.len {L:List (List UInt8)} {F:List (List (List UInt8))} (h:LinesAre L F):L.length=F.length:=by
 induction h with
 | nil=>rfl
 | cons _ _ ih=>simp [ih]
end Go.Proofs.YtboagmbmmoomiaaGreatDoor
