/- Plain laws, many texts in one. Conditions: none. -/
import Derived.Test.YthidohmobbomfaaGreatPlSp
import Derived.Test.YthidohmobbomfaaGreatPlTy
set_option linter.unusedVariables false
set_option linter.unusedSimpArgs false
namespace Go.Gx.Px
open Option renaming bind_some→qb,getD_some→Qi,isSome_some→Qv,toList_some→Qw
open Bool renaming false_eq_true→qc,and_eq_true→qi,not_true→qj,not_false→qr,eq_iff_iff→Ql,true_and→Qs
open List renaming getElem_mem→qd,drop_eq_getElem_cons→qe,length_cons→qf,length_take→qg,getElem?_eq_getElem→qh,length_nil→qk,take_length→ql,take_add_one→qm,mem_singleton→qn,length_append→qo,mem_of_mem_take→qs,drop_eq_nil_of_le→qt,mem_cons_self→qu,append_assoc→qv,length_filter_le→qw,all_eq_true→qx,getElem_of_mem→qy,drop_append_of_le_length→qz,mem_cons_of_mem→Qb,foldl_append→Qc,append_nil→Qd,filter_cons→Qe,drop_zero→Qf,take_append_drop→Qg,mem_of_mem_drop→Qh,not_of_lt_findIdx→Qj,filter_append→Qk,findIdx_getElem→Qm,drop_length→Qn,length_drop→Qo,any_eq_true→Qp,flatMap_append→Qr,length_filterMap_le→Qt,length_range→Qy,flatMap_cons→Qz
open Nat renaming le_trans→qp,le_refl→Qx
abbrev Fa:=Int × List Int
theorem inS (a b c:Int):S.l1In a b c=some (inR a b c):=by
 unfold S.l1In inR
 by_cases h:b≤a <;> simp [h]
theorem inM (a b c:Int):M.within a b c=some (inR a b c):=by
 unfold M.within inR
 by_cases h:b≤a <;> simp [h]
theorem idx_in {α:Type} {l:List α} {r:Int} (d:α) (h:inR r 0 ((l.length:Int)-1)=true):idx l r=some (l.getD r.toNat d):=by
 rw [inR_iff] at h
 obtain ⟨n,rfl⟩:∃n:Nat,r=n:=⟨r.toNat,by omega⟩
 have hn:n<l.length:=by omega
 rw [idx_nat l hn]
 simp [hn]
theorem all_loopN {β:Type} (f:Nat→Int→Option (Sum Unit β)) (n:Nat) (q:Nat→Bool) (b:β) (hn:n≤4294967296) (he:∀k,f (k+1) (n:Int)=some (.inl ()))
  (hs:∀k (i:Nat),i<n→f (k+1) (i:Int)=if q i then f k ((i+1:Nat):Int) else some (.inr b)):f FUEL 0=some (if (List.range n).all q then .inl () else .inr b) :=
 all_loop f (List.range n) q b (by simpa using hn) (by simpa using he) (fun k i hi=>by rw [hs k i (by simpa using hi)]; simp)
theorem any_loop {α β:Type} (f:Nat→Int→Option (Sum Unit β)) (a:List α) (q:α→Bool) (b:β) (hn:a.length≤4294967296) (he:∀k,f (k+1) (a.length:Int)=some (.inl ()))
  (hs:∀k (i:Nat) (hi:i<a.length),f (k+1) (i:Int)=if q a[i] then some (.inr b) else f k ((i+1:Nat):Int)):f FUEL 0=some (if a.any q then .inr b else .inl ()):=by
 rw [all_loop f a (fun e=>!q e) b hn he (fun k i hi=>by rw [hs k i hi]; cases q a[i] <;> rfl)]
 have:a.all (fun e=>!q e)=!a.any q:=by rw [List.any_eq_not_all_not]; simp
 rw [this]; cases a.any q <;> rfl
theorem flat_loopN {β:Type} (f:Nat→List β→Int→Option (List β)) (n:Nat) (g:Nat→List β) (hn:n≤4294967296) (he:∀k x,f (k+1) x (n:Int)=some x)
  (hs:∀k (x:List β) (i:Nat),i<n→x=(List.range i).flatMap g→f (k+1) x (i:Int)=f k (x++g i) ((i+1:Nat):Int)):f FUEL [] 0=some ((List.range n).flatMap g) :=
 flat_loop f (List.range n) g (by simpa using hn) (by simpa using he) (fun k x i hi hx=>by
  rw [Qy] at hi
  rw [hs k x i hi (by rw [hx,List.take_range,Nat.min_eq_left (by omega)])]; simp)
theorem flatMap_len {α β:Type} (g:α→List β) (hg:∀i,(g i).length≤1):∀l:List α,(l.flatMap g).length≤l.length
 | []=>by simp
 | a::l=>by have:=hg a; have:=flatMap_len g hg l; simp only [Qz,qo,qf]; omega
theorem w64_pred {i:Nat} (h0:0<i) (h:i<4294967296):w64 ((i:Int)-1)=((i-1:Nat):Int):=by
 rw [w64_id (by omega) (by omega)]; omega
theorem any_not {α:Type} (l:List α) (q:α→Bool):l.any (fun e=>!q e)=!l.all q:=by rw [List.all_eq_not_any_not]; simp

theorem clone_eq (a:List Int) (h:a.length≤1048576):Slices.Clone_Lint_int a=some a:=by
 unfold Slices.Clone_Lint_int; rw [app_eq _ _ (by simp; omega)]; rfl
theorem copyFact_eq (e:Fa) (h:e.2.length≤1048576):M.copyFact e=some e:=by
 unfold M.copyFact; rw [clone_eq _ h]; rfl
theorem copyFacts_id (a:List Fa) (h:SZ.sm a):M.copyFacts a=some a:=by
 obtain ⟨ha,he⟩:=h
 unfold M.copyFacts
 rw [map_loop (M.copyFacts_l1 a) a id (by omega) (fun k x=>by rw [M.copyFacts_l1,if_neg (by simp)]) (fun k x i hi hl=>by
  rw [M.copyFacts_l1,if_pos (by simpa using hi),idx_nat a hi]
  simp only [qb]
  rw [copyFact_eq _ (he _ (qd hi)).2.1,qb,app_eq _ _ (by simp; omega),qb,w64_succ (by omega)]
  rfl)]
 simp

theorem l2One_eq (r:Int) (v:List Int) (h:v.length≤1048576):S.l2One r v=some (r,v):=by
 unfold S.l2One; rw [app_eq _ _ (by simp; omega)]; rfl

theorem l2Copy_id (a:List Fa) (h:SZ.sm a):S.l2Copy a=some a:=by
 obtain ⟨ha,he⟩:=h
 unfold S.l2Copy
 rw [map_loop (S.l2Copy_l1 a) a id (by omega) (fun k x=>by rw [S.l2Copy_l1,if_neg (by simp)]) (fun k x i hi hl=>by
  rw [S.l2Copy_l1,if_pos (by simpa using hi),idx_nat a hi]
  simp only [qb]
  rw [l2One_eq _ _ (he _ (qd hi)).2.1,qb,app_eq _ _ (by simp; omega),qb,w64_succ (by omega)]
  rfl)]
 simp

def cmpL:List Int→List Int→Int
 | [],[]=>0
 | [],_::_=>-1
 | _::_,[]=>1
 | x::a,y::b=>if x<y then -1 else if y<x then 1 else cmpL a b
def cmpF (a b:Int × List Int):Int:=if a.1<b.1 then -1 else if b.1<a.1 then 1 else cmpL a.2 b.2
theorem CompareFacts_S (a b:Int × List Int) (ha:a.2.length≤4294967296) (hb:b.2.length≤4294967296):S.CompareFacts a b=some (cmpF a b):=by
 unfold S.CompareFacts
 by_cases h0:a.1=b.1
 ·have hc:cmpF a b=cmpL a.2 b.2:=by unfold cmpF; rw [if_neg (by omega),if_neg (by omega)]
  rw [hc,if_neg (by simp [h0])]
  have key:∀(K i:Nat),i≤a.2.length→i≤b.2.length→a.2.length<i+K→(S.CompareFacts_l1 a b K (i:Int)).bind (fun o=>match o with
    | .inl ()=>if (decide ((List.length a.2:Int)<(List.length b.2:Int))) then some (-1) else if (decide ((List.length b.2:Int)<(List.length a.2:Int))) then some 1 else some 0
    | .inr r=>some r)=some (cmpL (a.2.drop i) (b.2.drop i)):=by
   intro K
   induction K with
   | zero=>intro i h1 h2 h3; omega
   | succ K ih =>
    intro i h1 h2 h3
    rw [S.CompareFacts_l1]
    by_cases hi:i<a.2.length
    ·rw [if_pos (show decide ((i:Int)<(List.length a.2:Int))=true by simpa using hi),qb]
     by_cases hj:i<b.2.length
     ·rw [if_pos (show decide ((i:Int)<(List.length b.2:Int))=true by simpa using hj)]
      simp only [qb,idx_nat a.2 hi,idx_nat b.2 hj]
      rw [qe hi,qe hj]
      unfold cmpL
      by_cases g1:a.2[i]<b.2[i]
      ·simp [g1]
      ·by_cases g2:b.2[i]<a.2[i]
       ·simp [g1,g2]
       ·simp only [g1,g2,decide_false,qc,if_false]
        rw [w64_succ (by omega)]
        exact ih (i+1) (by omega) (by omega) (by omega)
     ·obtain rfl:i=b.2.length:=by omega
      rw [if_neg (by simp),qb,Qn,qe hi]
      simp only
      rw [if_neg (by simp; omega),if_pos (by simpa using hi)]
      unfold cmpL; rfl
    ·obtain rfl:i=a.2.length:=by omega
     rw [if_neg (by simp),qb,if_neg (by simp),qb,Qn]
     simp only
     by_cases hj:a.2.length<b.2.length
     ·rw [qe hj]; unfold cmpL; simp [hj]
     ·have:b.2.drop a.2.length=[]:=qt (by omega)
      rw [this]; unfold cmpL; simp [hj]; omega
  have h9:=key FUEL 0 (by omega) (by omega) (by rw [FUEL_eq]; omega)
  rw [Qf,Qf] at h9
  exact h9
 ·rw [if_pos (by simpa using h0)]
  unfold cmpF
  by_cases h1:a.1<b.1
  ·simp [h1]
  ·have:b.1<a.1:=by omega
   simp [h1,this]
theorem isNaN_eq (x:Int):Cmp.isNaN_int x=some false:=by unfold Cmp.isNaN_int; simp
def cmpI (a b:Int):Int:=if a<b then -1 else if b<a then 1 else 0
theorem Compare_int_eq (a b:Int):Cmp.Compare_int a b=some (cmpI a b):=by
 unfold Cmp.Compare_int cmpI
 rw [isNaN_eq,isNaN_eq]
 by_cases h:a<b <;> by_cases h2:b<a <;> simp [h,h2]
theorem Compare_L_eq (a b:List Int) (ha:a.length≤4294967296) (hb:b.length≤4294967296):Slices.Compare_Lint_int a b=some (cmpL a b):=by
 unfold Slices.Compare_Lint_int
 have key:∀(K i:Nat),i≤a.length→i≤b.length→a.length<i+K→(Slices.Compare_Lint_int_l1 a b K (i:Int)).bind (fun o=>match o with
   | .inl ()=>if (decide ((List.length a:Int)<(List.length b:Int))) then some (-1) else some 0
   | .inr r=>some r)=some (cmpL (a.drop i) (b.drop i)):=by
  intro K
  induction K with
  | zero=>intro i h1 h2 h3; omega
  | succ K ih =>
   intro i h1 h2 h3
   rw [Slices.Compare_Lint_int_l1]
   by_cases hi:i<a.length
   ·rw [if_pos (by simpa using hi),idx_nat a hi,qb]
    by_cases hj:i<b.length
    ·rw [if_neg (by simp; omega),idx_nat b hj,qb,Compare_int_eq,qb]
     rw [qe hi,qe hj]
     unfold cmpL cmpI
     by_cases g1:a[i]<b[i]
     ·simp [g1]
     ·by_cases g2:b[i]<a[i]
      ·simp [g1,g2]
      ·simp only [g1,g2,if_false,decide_true,qj,qc]
       rw [w64_succ (by omega)]
       exact ih (i+1) (by omega) (by omega) (by omega)
    ·obtain rfl:i=b.length:=by omega
     rw [if_pos (by simp),Qn,qe hi]
     unfold cmpL; rfl
   ·obtain rfl:i=a.length:=by omega
    rw [if_neg (by simp),Qn,qb]
    by_cases hj:a.length<b.length
    ·rw [qe hj]; unfold cmpL; simp [hj]
    ·have:b.drop a.length=[]:=qt (by omega)
     rw [this]; unfold cmpL; simp [hj]
 have h9:=key FUEL 0 (by omega) (by omega) (by rw [FUEL_eq]; omega)
 rw [Qf,Qf] at h9
 exact h9
theorem Or2_eq (x y:Int):Cmp.Or_int [x,y]=some (if x=0 then y else x):=by
 unfold Cmp.Or_int
 have e1:Cmp.Or_int_l1 [x,y] (FUEL-3+1+1+1) 0=some (if x=0 then (if y=0 then .inl () else .inr y) else .inr x):=by
  rw [Cmp.Or_int_l1,if_pos (by simp),show idx [x,y] 0=some x from rfl,qb]
  by_cases hx:x=0
  ·subst hx
   rw [if_neg (by simp),w64_sm (by omega) (by omega),Cmp.Or_int_l1,if_pos (by simp),show idx [(0:Int),y] (0+1)=some y from rfl,qb]
   by_cases hy:y=0
   ·subst hy
    rw [if_neg (by simp),w64_sm (by omega) (by omega),Cmp.Or_int_l1,if_neg (by simp)]; simp
   ·rw [if_pos (by simpa using hy)]; simp [hy]
  ·rw [if_pos (by simpa using hx)]; simp [hx]
 rw [show FUEL=FUEL-3+1+1+1 by rw [FUEL_eq],e1]
 by_cases hx:x=0 <;> by_cases hy:y=0 <;> simp [hx,hy]
theorem CompareFacts_M (a b:Int × List Int) (ha:a.2.length≤4294967296) (hb:b.2.length≤4294967296):M.CompareFacts a b=some (cmpF a b):=by
 unfold M.CompareFacts
 rw [Compare_int_eq,qb,Compare_L_eq _ _ ha hb,qb,Or2_eq,qb]
 unfold cmpF cmpI
 by_cases h:a.1<b.1 <;> by_cases h2:b.1<a.1 <;> simp [h,h2]
def schOk (s:List Int):Bool:=s.all (fun n=>inR n 1 3)&&inR (s.length:Int) 1 3
theorem IsSchema_S (s:List Int) (h:s.length≤4294967296):S.IsSchema s=some (schOk s):=by
 unfold S.IsSchema schOk
 rw [all_loop (S.IsSchema_l1 s) s (fun n=>inR n 1 3) false h (fun k=>by rw [S.IsSchema_l1,if_neg (by simp)]) (fun k i hi=>by
  rw [S.IsSchema_l1,if_pos (by simpa using hi),idx_nat s hi,qb,inS,qb,w64_succ (by omega)]
  cases inR s[i] 1 3 <;> rfl)]
 cases s.all (fun n=>inR n 1 3)
 ·rfl
 ·simp [inS]
theorem IsSchema_M (s:List Int) (h:s.length≤4294967296):M.IsSchema s=some (schOk s):=by
 unfold M.IsSchema schOk
 rw [inM,qb,Slices_ContainsFunc_Lint_int_M_IsSchema_c1_eq s (fun n=>!inR n 1 3) h (fun e he=>by unfold M.IsSchema_c1; rw [inM]; rfl),any_not]
 cases inR (s.length:Int) 1 3 <;> simp
def valsOk (l:List Int):Bool:=l.all fun n=>inR n 0 9
theorem areValues_M (l:List Int) (h:l.length≤4294967296):M.areValues l=some (valsOk l):=by
 unfold M.areValues valsOk
 rw [Slices_ContainsFunc_Lint_int_M_areValues_c1_eq l (fun n=>!inR n 0 9) h (fun e he=>by unfold M.areValues_c1 M.isValue; rw [inM]; rfl),any_not]
 simp
def arity (s:List Int) (r:Int):Int:=s.getD r.toNat 0
def relOk (s:List Int) (r:Int):Bool:=schOk s&&inR r 0 ((s.length:Int)-1)
theorem idx_arity {s:List Int} {r:Int} (h:relOk s r=true):idx s r=some (arity s r):=by
 unfold relOk at h
 rw [qi,inR_iff] at h
 obtain ⟨n,rfl⟩:∃n:Nat,r=n:=⟨r.toNat,by omega⟩
 have hn:n<s.length:=by omega
 rw [idx_nat s hn]
 unfold arity
 simp [hn]
def factOk (s:List Int) (f:Int × List Int):Bool:=relOk s f.1&&decide ((f.2.length:Int)=arity s f.1)&&valsOk f.2
theorem sch_len {s:List Int} (h:schOk s=true):1≤s.length∧s.length≤3:=by
 unfold schOk at h; rw [qi,inR_iff] at h; omega
theorem IsFact_S (s:List Int) (f:Int × List Int) (h:s.length≤4294967296) (hf:f.2.length≤4294967296):S.IsFact s f=some (factOk s f):=by
 unfold S.IsFact
 rw [IsSchema_S s h,qb,inS]
 cases h1:schOk s
 ·simp [factOk,relOk,h1]
 ·have hl:=sch_len h1
  rw [w64_sm (by omega) (by omega)]
  cases h2:inR f.1 0 ((s.length:Int)-1)
  ·simp [factOk,relOk,h1,h2]
  ·have hr:relOk s f.1=true:=by simp [relOk,h1,h2]
   rw [idx_arity hr]
   have hlo:=all_loop (S.IsFact_l1 f) f.2 (fun n=>inR n 0 9) false hf (fun k=>by rw [S.IsFact_l1,if_neg (by simp)]) (fun k i hi=>by
    rw [S.IsFact_l1,if_pos (by simpa using hi),idx_nat _ hi,qb,inS,qb,w64_succ (by omega)]
    cases inR f.2[i] 0 9 <;> rfl)
   rw [hlo]
   unfold factOk valsOk
   rw [hr]
   by_cases h3:(f.2.length:Int)=arity s f.1
   ·cases h4:f.2.all (fun n=>inR n 0 9) <;> simp [h3]
   ·simp [h3]
theorem hasRel_M (s:List Int) (r:Int) (h:s.length≤4294967296):M.hasRel s r=some (relOk s r):=by
 unfold M.hasRel
 rw [IsSchema_M s h,qb,inM]
 cases h1:schOk s
 ·simp [relOk,h1]
 ·have hl:=sch_len h1
  rw [w64_sm (by omega) (by omega)]
  simp [relOk,h1]
theorem IsFact_M (s:List Int) (f:Int × List Int) (h:s.length≤4294967296) (hf:f.2.length≤4294967296):M.IsFact s f=some (factOk s f):=by
 unfold M.IsFact
 rw [hasRel_M s _ h,qb]
 cases hr:relOk s f.1
 ·simp [factOk,hr]
 ·rw [idx_arity hr,areValues_M _ hf]
  unfold factOk
  rw [hr]
  by_cases h3:(f.2.length:Int)=arity s f.1 <;> simp [h3]

theorem cmpL_anti:∀(a b:List Int),cmpL b a=- cmpL a b
 | [],[]=>rfl
 | [],_::_=>rfl
 | _::_,[]=>rfl
 | x::a,y::b=>by
  unfold cmpL
  by_cases h:x<y
  ·have:¬y<x:=by omega
   simp [h,this]
  ·by_cases h2:y<x
   ·simp [h,h2]
   ·simp only [h,h2,if_false]; exact cmpL_anti a b
theorem cmpF_anti (a b:Fa):cmpF b a=- cmpF a b:=by
 unfold cmpF
 by_cases h:a.1<b.1
 ·have:¬b.1<a.1:=by omega
  simp [h,this]
 ·by_cases h2:b.1<a.1
  ·simp [h,h2]
  ·simp only [h,h2,if_false]; exact cmpL_anti _ _
def hasF (l:List Fa) (f:Fa):Bool:=l.any fun e=>decide (cmpF e f=0)
theorem sm_v {l:List Fa} (h:SZ.sm l) {e:Fa} (he:e∈l):e.2.length≤4294967296:=by have:=(h.2 e he).2.1; omega
theorem HasFact_S (l:List Fa) (f:Fa) (hl:SZ.sm l) (hf:SZ.sm f):S.HasFact l f=some (hasF l f):=by
 have h1:=hl.1
 have h2:=hf.2.1
 unfold S.HasFact hasF
 rw [any_loop (S.HasFact_l1 l f) l (fun e=>decide (cmpF e f=0)) true (by omega) (fun k=>by rw [S.HasFact_l1,if_neg (by simp)]) (fun k i hi=>by
  have:=CompareFacts_S l[i] f (sm_v hl (qd hi)) (by omega)
  rw [S.HasFact_l1,if_pos (by simpa using hi),idx_nat l hi,qb,show (f.1,f.2)=f from rfl,this,qb,w64_succ (by omega)])]
 cases l.any (fun e=>decide (cmpF e f=0)) <;> rfl
theorem HasFact_M (l:List Fa) (f:Fa) (hl:SZ.sm l) (hf:SZ.sm f):M.HasFact l f=some (hasF l f):=by
 have h1:=hl.1
 have h2:=hf.2.1
 unfold M.HasFact hasF
 rw [show (f.1,f.2)=f from rfl,Slices_ContainsFunc_Limpl_Fact_impl_Fact_M_HasFact_c1_eq l f (fun e=>decide (cmpF e f=0)) (by omega) (fun e he=>by
  unfold M.HasFact_c1; rw [show (e.1,e.2)=e from rfl,CompareFacts_M e f (sm_v hl he) (by omega)]; rfl)]; rfl

def gtF (f e:Fa):Bool:=decide (0<cmpF e f)
def addF (l:List Fa) (f:Fa):List Fa:=if hasF l f then l else l.take (l.findIdx (gtF f))++[f]++l.drop (l.findIdx (gtF f))
theorem findIdx_le {α:Type} (q:α→Bool) (l:List α):l.findIdx q≤l.length:=List.findIdx_le_length
theorem fidx_find {α:Type} (q:α→Bool):∀(l:List α) (i:Nat),fidx q l i=if l.any q then ((i+l.findIdx q:Nat):Int) else -1
 | [],i=>by simp [fidx]
 | a::l,i=>by
  unfold fidx
  rw [List.findIdx_cons]
  cases h:q a
  ·rw [fidx_find q l (i+1)]
   simp only [qc,if_false,List.any_cons,h,Bool.false_or]
   split
   ·simp only [cond_false]; congr 1; omega
   ·rfl
  ·simp [h]
theorem find_none {α:Type} (q:α→Bool) (l:List α) (h:l.any q=false):l.findIdx q=l.length:=by
 rw [List.findIdx_eq_length]
 intro x hx
 cases hq:q x
 ·rfl
 ·have:=List.any_eq_true.2 ⟨x,hx,hq⟩; rw [h] at this; cases this
theorem sm_add {l:List Fa} {f:Fa} (hl:SZ.sm l) (hf:SZ.sm f) (hn:l.length+1≤1048576):SZ.sm (addF l f):=by
 unfold addF
 split
 ·exact hl
 ·refine ⟨by have:=findIdx_le (gtF f) l; simp only [qo,qg,Qo,qf,qk]; omega,fun e he=>?_⟩
  rcases List.mem_append.1 he with he | he
  ·rcases List.mem_append.1 he with he | he
   ·exact hl.2 e (qs he)
   ·simp at he; subst he; exact hf
  ·exact hl.2 e (Qh he)
theorem addF_len (l:List Fa) (f:Fa):(addF l f).length≤l.length+1:=by
 unfold addF
 split
 ·omega
 ·have:=findIdx_le (gtF f) l; simp only [qo,qg,Qo,qf,qk]; omega
theorem added_M (l:List Fa) (f:Fa) (hl:SZ.sm l) (hf:SZ.sm f):M.added l f=some (addF l f):=by
 have h1:=hl.1
 have h2:=hf.2.1
 unfold M.added addF
 rw [show (f.1,f.2)=f from rfl,HasFact_M l f hl hf,qb]
 cases hasF l f
 ·simp only [qc,if_false]
  rw [Slices_IndexFunc_Limpl_Fact_impl_Fact_M_added_c1_eq l f (gtF f) (by omega) (fun e he=>by
   unfold M.added_c1; rw [show (e.1,e.2)=e from rfl,CompareFacts_M e f (sm_v hl he) (by omega)]; rfl),qb,fidx_find]
  have hle:=findIdx_le (gtF f) l
  have e1:(if decide ((if l.any (gtF f) then ((0+l.findIdx (gtF f):Nat):Int) else -1)<0)=true then some (List.length l:Int) else some (if l.any (gtF f) then ((0+l.findIdx (gtF f):Nat):Int) else -1))=some ((l.findIdx (gtF f):Nat):Int):=by
   cases hq:l.any (gtF f)
   ·rw [find_none _ _ hq]; simp
   ·simp only [if_true,Nat.zero_add]; rw [if_neg (by simp)]
  rw [e1,qb,copyFact_eq f h2,qb]
  unfold Slices.Insert_Limpl_Fact_impl_Fact ins
  rw [if_pos ⟨by omega,by omega,rfl,by rw [LIM_eq]; omega⟩]
  simp
 ·simp
theorem AddFact_S (l:List Fa) (f:Fa) (hl:SZ.sm l) (hf:SZ.sm f):S.AddFact l f=some (addF l f):=by
 have h1:=hl.1
 have h2:=hf.2.1
 unfold S.AddFact
 rw [show (f.1,f.2)=f from rfl,HasFact_S l f hl hf,qb]
 have hone:∀(i:Nat) (hi:i<l.length),S.l2One l[i].1 l[i].2=some l[i]:=fun i hi=>l2One_eq _ _ (hl.2 _ (qd hi)).2.1
 have hc:∀(i:Nat) (hi:i<l.length),S.CompareFacts f l[i]=some (cmpF f l[i]):=fun i hi=>CompareFacts_S f l[i] (by omega) (sm_v hl (qd hi))
 have hq:∀e:Fa,decide (cmpF f e<0)=gtF f e:=fun e=>by unfold gtF; rw [cmpF_anti f e]; congr 1; exact propext ⟨fun h=>by omega,fun h=>by omega⟩
 unfold addF
 cases hasF l f
 ·simp only [qc,if_false]
  generalize hp:l.findIdx (gtF f)=p
  have hple:p≤l.length:=by rw [←hp]; exact findIdx_le _ _
  obtain ⟨k,s,g1,rfl⟩:=loop_inv0 (fun k (s:List Fa × Bool) i=>S.AddFact_l1 l f k s.1 s.2 i) (fun i s=>s=if p<i then (l.take p++[f]++(l.take i).drop p,true) else (l.take i,false)) l.length (by omega) (([]:List Fa),false) (by simp) (fun k i s hi hs=>by
   subst hs
   refine ⟨_,?_,rfl⟩
   have ht:l.take (i+1)=l.take i++[l[i]]:=by rw [qm,qh hi]; rfl
   by_cases c1:p<i
   ·have e1:(l.take p++[f]++(l.take i).drop p)++[l[i]]=l.take p++[f]++(l.take (i+1)).drop p:=by
     rw [ht,qz (by rw [qg]; omega),qv]
    simp only [c1,if_true,show p<i+1 by omega]
    rw [S.AddFact_l1,if_pos (by simpa using hi),idx_nat l hi]
    simp only [qj,qc,if_false,qb,hone i hi]
    rw [app_eq _ _ (by simp only [qo,qg,Qo,qf,qk]; omega),qb,w64_succ (by omega),show (l[i].1,l[i].2)=l[i] from rfl,e1]
   ·have hgt:gtF f l[i]=decide (p=i):=by
     by_cases c2:p=i
     ·subst c2
      have:=Qm (xs:=l) (p:=gtF f) (w:=by rw [hp]; exact hi)
      simp only [hp] at this
      rw [this]; simp
     ·have h9:=Qj (xs:=l) (p:=gtF f) (i:=i) (by omega)
      simp only [c2,decide_false]
      simpa using h9
    simp only [c1,if_false]
    rw [S.AddFact_l1,if_pos (by simpa using hi),idx_nat l hi]
    simp only [qr,if_true,qb,hc i hi,hq,hgt,hone i hi]
    by_cases c2:p=i
    ·subst c2
     simp only [decide_true,if_true,l2One_eq _ _ h2,qb,show (f.1,f.2)=f from rfl,show p<p+1 by omega]
     rw [app_eq _ _ (by simp only [qg,qf,qk]; omega)]
     simp only [qb]
     rw [app_eq _ _ (by simp only [qo,qg,qf,qk]; omega),qb,w64_succ (by omega),show (l[p].1,l[p].2)=l[p] from rfl,ht,qz (by rw [qg]; omega)]
     simp
    ·simp only [c2,decide_false,qc,if_false,qb,show ¬p<i+1 by omega]
     rw [app_eq _ _ (by simp only [qg,qf,qk]; omega),qb,w64_succ (by omega),show (l[i].1,l[i].2)=l[i] from rfl,ht])
  rw [g1]
  by_cases c1:p<l.length
  ·simp only [c1,if_true]
   rw [S.AddFact_l1,if_neg (by simp),qb]
   simp
  ·have:p=l.length:=by omega
   subst this
   simp only [Nat.lt_irrefl,if_false]
   rw [S.AddFact_l1,if_neg (by simp),qb]
   simp only [qr,if_true,l2One_eq _ _ h2,qb]
   rw [app_eq _ _ (by simp only [qg,qf,qk]; omega)]
   simp
 ·simp only [if_true]
  obtain ⟨k,s,g1,rfl⟩:=loop_inv0 (fun k (s:List Fa × Bool) i=>S.AddFact_l1 l f k s.1 s.2 i) (fun i s=>s=(l.take i,true)) l.length (by omega) (([]:List Fa),true) (by simp) (fun k i s hi hs=>by
   subst hs
   refine ⟨_,?_,rfl⟩
   show S.AddFact_l1 l f (k+1) (l.take i) true i=S.AddFact_l1 l f k (l.take (i+1)) true _
   rw [S.AddFact_l1,if_pos (by simpa using hi),idx_nat l hi]
   simp only [qj,qc,if_false,qb,hone i hi]
   rw [app_eq _ _ (by simp only [qg,qf,qk]; omega),qb,w64_succ (by omega),qm,qh hi]
   rfl)
  rw [g1]
  simp only
  rw [S.AddFact_l1,if_neg (by simp),qb]
  simp

abbrev Code:=List UInt8
theorem band255 (x:Int):0≤band x 255∧band x 255≤255:=by
 unfold band
 rw [w64_eq]
 have h:(BitVec.ofInt 64 x &&& BitVec.ofInt 64 255).toNat≤255:=by
  rw [BitVec.toNat_and]; exact Nat.and_le_right
 rw [w64_id (by omega) (by omega)]
 omega
def Pos (a:Code) (p:Int):Prop:=0≤p∧p≤(a.length:Int)
theorem byte_ok (a:Code) (p s:Int) (ha:a.length≤1048576) (hp:Pos a p):∃v q t,S.l1Byte (a,p,s)=some (v,(a,q,t))∧0≤v∧v≤255∧Pos a q:=by
 unfold S.l1Byte
 obtain ⟨h0,h1⟩:=hp
 by_cases h:p<(a.length:Int)
 ·obtain ⟨i,rfl⟩:∃i:Nat,p=i:=⟨p.toNat,by omega⟩
  have hi:i<a.length:=by omega
  rw [if_pos (by simpa using hi),idx_nat a hi,qb,qb]
  exact ⟨_,_,_,rfl,(band255 _).1,(band255 _).2,by rw [w64_succ (by omega)]; exact ⟨by omega,by omega⟩⟩
 ·rw [if_neg (by simpa using h),qb]
  exact ⟨_,_,_,rfl,(band255 _).1,(band255 _).2,h0,h1⟩
theorem below_ok (a:Code) (p s n:Int) (ha:a.length≤1048576) (hp:Pos a p) (h0:0<n) (h1:n≤256):∃v q t,S.l1Below (a,p,s) n=some (v,(a,q,t))∧0≤v∧v<n∧Pos a q:=by
 obtain ⟨v,q,t,e,v0,v1,hq⟩:=byte_ok a p s ha hp
 unfold S.l1Below
 have hz:nz n=some ():=by unfold nz; rw [if_neg (by omega)]
 rw [if_neg (by simp; omega),if_pos (by simpa using h1),e,qb,hz,qb]
 refine ⟨_,_,_,rfl,?_,?_,hq⟩
 ·rw [Int.tmod_eq_emod_of_nonneg v0]; exact Int.emod_nonneg _ (by omega)
 ·rw [Int.tmod_eq_emod_of_nonneg v0]; exact Int.emod_lt_of_pos _ h0
theorem pick_ok (a:Code) (p s:Int) (l:List Int) (ha:a.length≤1048576) (hp:Pos a p) (h0:0<l.length) (h1:l.length≤256):∃v q t,S.l1PickInt (a,p,s) l=some (v,(a,q,t))∧v∈l∧Pos a q:=by
 obtain ⟨v,q,t,e,v0,v1,hq⟩:=below_ok a p s (l.length:Int) ha hp (by omega) (by omega)
 unfold S.l1PickInt
 obtain ⟨i,rfl⟩:∃i:Nat,v=i:=⟨v.toNat,by omega⟩
 have hi:i<l.length:=by omega
 rw [e,qb,idx_nat l hi,qb]
 exact ⟨_,_,_,rfl,qd hi,hq⟩
theorem new_ok (a:Code) (ha:a.length≤1048576):∃t,S.l1New a=some (a,0,t):=by
 unfold S.l1New
 have key:∀(K i:Nat) (x:Int),i≤a.length→a.length<i+K→∃t,S.l1New_l1 a K x (i:Int)=some t:=by
  intro K
  induction K with
  | zero=>intro i x h1 h2; omega
  | succ K ih =>
   intro i x h1 h2
   rw [S.l1New_l1]
   by_cases hi:i<a.length
   ·rw [if_pos (by simpa using hi),qb]
    by_cases h4:(i:Int)<4000
    ·rw [if_pos (by simpa using h4),idx_nat a hi,qb,w64_succ (by omega)]
     exact ih (i+1) _ (by omega) (by omega)
    ·rw [if_neg (by simpa using h4)]; exact ⟨_,rfl⟩
   ·rw [if_neg (by simpa using hi),qb,if_neg (by simp)]; exact ⟨_,rfl⟩
 obtain ⟨t,h⟩:=key FUEL 0 (w64 (10101+(a.length:Int))) (by omega) (by rw [FUEL_eq]; omega)
 have h':S.l1New_l1 a FUEL (w64 (10101+(a.length:Int))) 0=some t:=h
 rw [h']
 exact ⟨t,rfl⟩

abbrev Mf:=Int × List Int × Int × Int × Int
theorem once_ok (a:Code) (p s n:Int) (ha:a.length≤1048576) (hp:Pos a p) (h0:0<n) (h1:n≤256):∃(b:Bool) (q t:Int),S.l1Once (a,p,s) n=some (b,(a,q,t))∧Pos a q:=by
 obtain ⟨v,q,t,e,-,-,hq⟩:=below_ok a p s n ha hp h0 h1
 unfold S.l1Once
 rw [e,qb]
 exact ⟨_,_,_,rfl,hq⟩
theorem w64_down (n:Nat) (h:n<4294967296):w64 (((n+1:Nat):Int)-1)=(n:Int):=by rw [w64_sm (by omega) (by omega)]; omega
theorem schema_loop (a:Code) (ha:a.length≤1048576) (c:Code × Int × Int) (hc:c.1=a):∀(n K:Nat) (p s:Int) (l:List Int),n<K→l.length+n≤100→(∀x∈l,1≤x∧x≤3)→Pos a p→∃q t m,S.l2Schema_l1 c K p s l (n:Int)=some (q,t,m)∧m.length=l.length+n∧(∀x∈m,1≤x∧x≤3)∧Pos a q:=by
 intro n
 induction n with
 | zero =>
  intro K p s l hK hl hm hp
  obtain ⟨K,rfl⟩:∃k,K=k+1:=⟨K-1,by omega⟩
  rw [S.l2Schema_l1,if_neg (by simp)]
  exact ⟨_,_,_,rfl,by omega,hm,hp⟩
 | succ n ih =>
  intro K p s l hK hl hm hp
  obtain ⟨K,rfl⟩:∃k,K=k+1:=⟨K-1,by omega⟩
  obtain ⟨v1,q1,t1,e1,h0,h1,p1⟩:=below_ok a p s 2 ha hp (by omega) (by omega)
  obtain ⟨b2,q2,t2,e2,p2⟩:=once_ok a q1 t1 4 ha p1 (by omega) (by omega)
  rw [S.l2Schema_l1,if_pos (decide_eq_true (by omega)),hc,e1,qb]
  simp only
  rw [e2,qb]
  simp only
  have hx:∃x,(if b2=true then some (3:Int) else some (w64 (1+v1)))=some x∧1≤x∧x≤3:=by
   cases b2
   ·exact ⟨_,rfl,by rw [w64_sm (by omega) (by omega)]; omega,by rw [w64_sm (by omega) (by omega)]; omega⟩
   ·exact ⟨3,rfl,by omega,by omega⟩
  obtain ⟨x,hx1,hx2⟩:=hx
  rw [hx1,qb,app_eq _ _ (by simp; omega),qb,w64_down n (by omega)]
  obtain ⟨q,t,m,g1,g2,g3,g4⟩:=ih K q2 t2 (l++[x]) (by omega) (by simp; omega) (fun y hy=>by
   rcases List.mem_append.1 hy with hy | hy
   ·exact hm y hy
   ·rw [qn] at hy; subst hy; exact hx2) p2
  exact ⟨q,t,m,g1,by rw [g2]; simp; omega,g3,g4⟩
theorem schema_ok (a:Code) (p s:Int) (ha:a.length≤1048576) (hp:Pos a p):∃(m:List Int) (q t:Int),S.l2Schema (a,p,s)=some (m,(a,q,t))∧schOk m=true∧m.length≤3∧Pos a q:=by
 obtain ⟨v1,q1,t1,e1,h0,h1,p1⟩:=below_ok a p s 3 ha hp (by omega) (by omega)
 obtain ⟨n,rfl⟩:∃n:Nat,v1=n:=⟨v1.toNat,by omega⟩
 obtain ⟨q2,t2,m,e2,hl,hm,p2⟩:=schema_loop a ha (a,p,s) rfl (n+1) FUEL q1 t1 [] (by rw [FUEL_eq]; omega) (by simp; omega) (fun x hx=>by cases hx) p1
 unfold S.l2Schema
 rw [e1,qb]
 simp only
 have e3:w64 (1+(n:Int))=((n+1:Nat):Int):=by rw [w64_sm (by omega) (by omega)]; omega
 rw [e3,e2]
 simp only [qk,Nat.zero_add] at hl
 refine ⟨m,q2,t2,rfl,?_,by omega,p2⟩
 unfold schOk
 rw [qi,qx,inR_iff]
 exact ⟨fun x hx=>inR_iff.2 (hm x hx),by omega⟩
theorem sch_arity {sc:List Int} (h:schOk sc=true) {i:Nat} (hi:i<sc.length):1≤sc[i]∧sc[i]≤3:=by
 unfold schOk at h
 rw [qi,qx] at h
 exact inR_iff.1 (h.1 _ (qd hi))
theorem fact_loop (a:Code) (ha:a.length≤1048576) (sc:List Int) (c:Code × Int × Int) (hc:c.1=a) (w:Int) (hw:0<w∧w≤256) (r:Nat) (hr:r<sc.length) (ar:Nat) (har:sc[r]=(ar:Int)) (h3:ar≤3) :
  ∀(n K:Nat) (p s:Int) (l:List Int) (i:Nat),i+n=ar→l.length=i→n<K→Pos a p→∃q t m,S.l2Fact_l1 sc c w K (r:Int) l p s (i:Int)=some ((r:Int),m,q,t)∧m.length=ar∧Pos a q:=by
 intro n
 induction n with
 | zero =>
  intro K p s l i h1 h2 hK hp
  obtain ⟨K,rfl⟩:∃k,K=k+1:=⟨K-1,by omega⟩
  rw [S.l2Fact_l1,idx_nat sc hr,qb,if_neg (by rw [har]; simp; omega)]
  exact ⟨_,_,_,rfl,by omega,hp⟩
 | succ n ih =>
  intro K p s l i h1 h2 hK hp
  obtain ⟨K,rfl⟩:∃k,K=k+1:=⟨K-1,by omega⟩
  obtain ⟨v1,q1,t1,e1,-,-,p1⟩:=below_ok a p s w ha hp hw.1 hw.2
  rw [S.l2Fact_l1,idx_nat sc hr,qb,if_pos (by rw [har]; exact decide_eq_true (by omega)),hc,e1,qb,app_eq _ _ (by simp; omega),qb,w64_succ (by omega)]
  exact ih K q1 t1 _ (i+1) (by omega) (by simp; omega) (by omega) p1
theorem fact_ok (a:Code) (p s:Int) (sc:List Int) (w:Int) (ha:a.length≤1048576) (hp:Pos a p) (hs:schOk sc=true) (hw:0<w∧w≤256) :
  ∃(f:Fa) (q t:Int),S.l2Fact (a,p,s) sc w=some (f,(a,q,t))∧1≤f.2.length∧f.2.length≤3∧Pos a q:=by
 have hl:=sch_len hs
 obtain ⟨v1,q1,t1,e1,h0,h1,p1⟩:=below_ok a p s (sc.length:Int) ha hp (by omega) (by omega)
 obtain ⟨r,rfl⟩:∃r:Nat,v1=r:=⟨v1.toNat,by omega⟩
 have hr:r<sc.length:=by omega
 have har:=sch_arity hs hr
 obtain ⟨ar,har2⟩:∃n:Nat,sc[r]=(n:Int):=⟨(sc[r]).toNat,by omega⟩
 obtain ⟨q2,t2,m,e2,hm,p2⟩:=fact_loop a ha sc (a,p,s) rfl w hw r hr ar har2 (by omega) ar FUEL q1 t1 [] 0 (by omega) rfl (by rw [FUEL_eq]; omega) p1
 have e2':S.l2Fact_l1 sc (a,p,s) w FUEL (r:Int) [] q1 t1 0=some ((r:Int),m,q2,t2):=e2
 unfold S.l2Fact
 rw [e1,qb]
 simp only
 rw [e2']
 exact ⟨((r:Int),m),q2,t2,rfl,by show 1≤m.length; omega,by show m.length≤3; omega,p2⟩
theorem mem_addF' {l:List Fa} {f e:Fa} (h:e∈addF l f):e∈l∨e=f:=by
 unfold addF at h
 split at h
 ·exact .inl h
 ·rcases List.mem_append.1 h with h | h
  ·rcases List.mem_append.1 h with h | h
   ·exact .inl (qs h)
   ·exact .inr (List.mem_singleton.1 h)
  ·exact .inl (Qh h)
theorem sm_fact {f:Fa} (h:f.2.length≤1048576):SZ.sm f:=⟨trivial,sm_ints h⟩
theorem facts_loop (a:Code) (ha:a.length≤1048576) (sc:List Int) (hs:schOk sc=true) (c:Code × Int × Int) (hc:c.1=a):∀(n K:Nat) (p s:Int) (l:List Fa),n<K→l.length+n≤100→SZ.sm l→(∀f∈l,f.2.length≤3)→Pos a p→∃q t m,S.l2Facts_l1 c sc K p s l (n:Int)=some (q,t,m)∧m.length≤l.length+n∧SZ.sm m∧(∀f∈m,f.2.length≤3)∧Pos a q:=by
 intro n
 induction n with
 | zero =>
  intro K p s l hK hl hm hf hp
  obtain ⟨K,rfl⟩:∃k,K=k+1:=⟨K-1,by omega⟩
  rw [S.l2Facts_l1,if_neg (by simp)]
  exact ⟨_,_,_,rfl,by omega,hm,hf,hp⟩
 | succ n ih =>
  intro K p s l hK hl hm hf hp
  obtain ⟨K,rfl⟩:∃k,K=k+1:=⟨K-1,by omega⟩
  obtain ⟨f,q1,t1,e1,h0,h1,p1⟩:=fact_ok a p s sc 4 ha hp hs ⟨by omega,by omega⟩
  have hsf:=sm_fact (f:=f) (by omega)
  have hlen:=addF_len l f
  rw [S.l2Facts_l1,if_pos (decide_eq_true (by omega)),hc,e1,qb]
  simp only
  rw [AddFact_S l f hm hsf,qb,w64_down n (by omega)]
  obtain ⟨q,t,m,g1,g2,g3,g4,g5⟩:=ih K q1 t1 (addF l f) (by omega) (by omega) (sm_add hm hsf (by omega)) (fun e he=>by
   rcases mem_addF' he with he | rfl
   ·exact hf e he
   ·exact h1) p1
  exact ⟨q,t,m,g1,by omega,g3,g4,g5⟩
theorem facts_ok (a:Code) (p s:Int) (sc:List Int) (most:Int) (ha:a.length≤1048576) (hp:Pos a p) (hs:schOk sc=true) (hm:0≤most∧most≤90) :
  ∃(l:List Fa) (q t:Int),S.l2Facts (a,p,s) sc most=some (l,(a,q,t))∧(l.length:Int)≤most∧SZ.sm l∧(∀f∈l,f.2.length≤3)∧Pos a q:=by
 obtain ⟨v1,q1,t1,e1,h0,h1,p1⟩:=below_ok a p s (most+1) ha hp (by omega) (by omega)
 obtain ⟨n,rfl⟩:∃n:Nat,v1=n:=⟨v1.toNat,by omega⟩
 obtain ⟨q2,t2,m,e2,hl,hsm,hf,p2⟩:=facts_loop a ha sc hs (a,p,s) rfl n FUEL q1 t1 [] (by rw [FUEL_eq]; omega) (by simp; omega) sm_nil (fun f hf=>by cases hf) p1
 unfold S.l2Facts
 rw [w64_sm (by omega) (by omega),e1,qb]
 simp only
 rw [e2]
 exact ⟨m,q2,t2,rfl,by simp at hl; omega,hsm,hf,p2⟩
theorem anyFact_ok (a:Code) (p s:Int) (sc:List Int) (ha:a.length≤1048576) (hp:Pos a p) (hs:schOk sc=true) :
  ∃(f:Fa) (q t:Int),S.l2AnyFact (a,p,s) sc=some (f,(a,q,t))∧f.2.length≤4∧Pos a q:=by
 have hl:=sch_len hs
 obtain ⟨f,q1,t1,e1,h0,h1,p1⟩:=fact_ok a p s sc 10 ha hp hs ⟨by omega,by omega⟩
 obtain ⟨v2,q2,t2,e2,-,-,p2⟩:=below_ok a q1 t1 8 ha p1 (by omega) (by omega)
 unfold S.l2AnyFact
 rw [IsSchema_S sc (by omega),hs,qb,if_pos rfl,e1,qb,qb]
 simp only
 rw [e2,qb]
 simp only
 by_cases c0:v2=0
 ·obtain ⟨v3,q3,t3,e3,-,-,p3⟩:=below_ok a q2 t2 5 ha p2 (by omega) (by omega)
  rw [if_pos (decide_eq_true c0),e3]
  exact ⟨_,q3,t3,rfl,by show f.2.length≤4; omega,p3⟩
 ·rw [if_neg (by simpa using c0)]
  by_cases c1:v2=1
  ·obtain ⟨v3,q3,t3,e3,-,p3⟩:=pick_ok a q2 t2 [-1,9,10] ha p2 (by simp) (by simp)
   have hi:idx f.2 0=some (f.2[0]'(by omega)):=idx_nat f.2 (i:=0) (by omega)
   rw [if_pos (decide_eq_true c1),e3,qb,hi]
   exact ⟨_,q3,t3,rfl,by show (f.2.set _ _).length≤4; rw [List.length_set]; omega,p3⟩
  ·rw [if_neg (by simpa using c1)]
   by_cases c2:v2=2
   ·rw [if_pos (decide_eq_true c2),app_eq _ _ (by simp; omega)]
    exact ⟨_,q2,t2,rfl,by show (f.2++[1]).length≤4; simp; omega,p2⟩
   ·rw [if_neg (by simpa using c2)]
    exact ⟨_,q2,t2,rfl,by show f.2.length≤4; omega,p2⟩
theorem anyFacts_ok (a:Code) (p s:Int) (sc:List Int) (ha:a.length≤1048576) (hp:Pos a p) (hs:schOk sc=true) :
  ∃(l:List Fa) (q t:Int),S.l2AnyFacts (a,p,s) sc=some (l,(a,q,t))∧l.length≤9∧(∀f∈l,f.2.length≤4)∧Pos a q:=by
 have hl:=sch_len hs
 obtain ⟨l,q1,t1,e1,h0,h1,hf,p1⟩:=facts_ok a p s sc 8 ha hp hs ⟨by omega,by omega⟩
 obtain ⟨b,q2,t2,e2,p2⟩:=once_ok a q1 t1 10 ha p1 (by omega) (by omega)
 unfold S.l2AnyFacts
 rw [IsSchema_S sc (by omega),hs,qb,if_pos rfl,e1,qb,qb]
 simp only
 rw [e2,qb]
 simp only
 cases b
 ·exact ⟨l,q2,t2,rfl,by omega,fun f h=>by have:=hf f h; omega,p2⟩
 ·obtain ⟨f,q3,t3,e3,h3,p3⟩:=anyFact_ok a q2 t2 sc ha p2 hs
  rw [if_pos rfl,e3,qb,app_eq _ _ (by simp; omega)]
  refine ⟨_,q3,t3,rfl,by simp; omega,fun g hg=>?_,p3⟩
  rcases List.mem_append.1 hg with hg | hg
  ·have:=hf g hg; omega
  ·rw [qn] at hg; subst hg; exact h3
theorem method_loop (a:Code) (ha:a.length≤1048576) (sc:List Int) (c:Code × Int × Int) (hc:c.1=a) (r:Nat) (hr:r<sc.length) (ar:Nat) (har:sc[r]=(ar:Int)) (h3:ar≤3) (x y z:Int) :
  ∀(n K:Nat) (p s:Int) (l:List Int) (i:Nat),i+n=ar→l.length≤i→n<K→Pos a p→∃q t m,S.l5Method_l1 sc c K (r:Int) l x y z p s (i:Int)=some ((r:Int),m,x,y,z,q,t)∧m.length≤3∧Pos a q:=by
 intro n
 induction n with
 | zero =>
  intro K p s l i h1 h2 hK hp
  obtain ⟨K,rfl⟩:∃k,K=k+1:=⟨K-1,by omega⟩
  rw [S.l5Method_l1,idx_nat sc hr,qb,if_neg (by rw [har]; simp; omega)]
  exact ⟨p,s,l,rfl,by omega,hp⟩
 | succ n ih =>
  intro K p s l i h1 h2 hK hp
  obtain ⟨K,rfl⟩:∃k,K=k+1:=⟨K-1,by omega⟩
  obtain ⟨b,q1,t1,e1,p1⟩:=once_ok a p s 3 ha hp (by omega) (by omega)
  rw [S.l5Method_l1,idx_nat sc hr,qb,if_pos (by rw [har]; exact decide_eq_true (by omega)),hc,e1,qb,w64_succ (by omega)]
  simp only
  cases b
  ·exact ih K q1 t1 l (i+1) (by omega) (by omega) (by omega) p1
  ·rw [if_pos rfl,app_eq l _ (by simp; omega)]
   exact ih K q1 t1 (l++[(i:Int)]) (i+1) (by omega) (by simp; omega) (by omega) p1
theorem method_ok (a:Code) (p s:Int) (sc:List Int) (ha:a.length≤1048576) (hp:Pos a p) (hs:schOk sc=true) :
  ∃(f:Mf) (q t:Int),S.l5Method (a,p,s) sc=some (f,(a,q,t))∧f.2.1.length≤3∧Pos a q:=by
 have hl:=sch_len hs
 obtain ⟨v1,q1,t1,e1,h0,h1,p1⟩:=below_ok a p s (sc.length:Int) ha hp (by omega) (by omega)
 obtain ⟨v2,q2,t2,e2,-,p2⟩:=pick_ok a q1 t1 [0,0,0,1,2] ha p1 (by simp) (by simp)
 obtain ⟨v3,q3,t3,e3,-,-,p3⟩:=below_ok a q2 t2 5 ha p2 (by omega) (by omega)
 obtain ⟨v4,q4,t4,e4,-,-,p4⟩:=below_ok a q3 t3 6 ha p3 (by omega) (by omega)
 obtain ⟨r,rfl⟩:∃r:Nat,v1=r:=⟨v1.toNat,by omega⟩
 have hr:r<sc.length:=by omega
 have har:=sch_arity hs hr
 obtain ⟨ar,har2⟩:∃n:Nat,sc[r]=(n:Int):=⟨(sc[r]).toNat,by omega⟩
 obtain ⟨q5,t5,m,e5,hm,p5⟩:=method_loop a ha sc (a,p,s) rfl r hr ar har2 (by omega) v2 v3 (w64 (1+v4)) ar FUEL q4 t4 [] 0 (by omega) (by simp) (by rw [FUEL_eq]; omega) p4
 have e5':S.l5Method_l1 sc (a,p,s) FUEL (r:Int) [] v2 v3 (w64 (1+v4)) q4 t4 0=some ((r:Int),m,v2,v3,w64 (1+v4),q5,t5):=e5
 unfold S.l5Method
 rw [e1,qb]
 simp only
 rw [e2,qb]
 simp only
 rw [e3,qb]
 simp only
 rw [e4,qb]
 simp only
 rw [e5']
 exact ⟨((r:Int),m,v2,v3,w64 (1+v4)),q5,t5,rfl,hm,p5⟩
theorem methods_loop (a:Code) (ha:a.length≤1048576) (sc:List Int) (hs:schOk sc=true) (c:Code × Int × Int) (hc:c.1=a):∀(n K:Nat) (p s:Int) (l:List Mf),n<K→l.length+n≤100→(∀m∈l,m.2.1.length≤100)→Pos a p→∃q t m,S.l5Methods_l1 c sc K p s l (n:Int)=some (q,t,m)∧m.length=l.length+n∧(∀x∈m,x.2.1.length≤100)∧Pos a q:=by
 intro n
 induction n with
 | zero =>
  intro K p s l hK hl hm hp
  obtain ⟨K,rfl⟩:∃k,K=k+1:=⟨K-1,by omega⟩
  rw [S.l5Methods_l1,if_neg (by simp)]
  exact ⟨_,_,_,rfl,by omega,hm,hp⟩
 | succ n ih =>
  intro K p s l hK hl hm hp
  obtain ⟨K,rfl⟩:∃k,K=k+1:=⟨K-1,by omega⟩
  obtain ⟨f,q1,t1,e1,h1,p1⟩:=method_ok a p s sc ha hp hs
  rw [S.l5Methods_l1,if_pos (decide_eq_true (by omega)),hc,e1,qb,app_eq _ _ (by simp; omega),qb,w64_down n (by omega)]
  obtain ⟨q,t,m,g1,g2,g3,g4⟩:=ih K q1 t1 (l++[f]) (by omega) (by simp; omega) (fun y hy=>by
   rcases List.mem_append.1 hy with hy | hy
   ·exact hm y hy
   ·rw [qn] at hy; subst hy; omega) p1
  exact ⟨q,t,m,g1,by rw [g2]; simp; omega,g3,g4⟩
theorem methods_ok (a:Code) (p s:Int) (sc:List Int) (ha:a.length≤1048576) (hp:Pos a p) (hs:schOk sc=true) :
  ∃(l:List Mf) (q t:Int),S.l5Methods (a,p,s) sc=some (l,(a,q,t))∧l.length≤4∧(∀m∈l,m.2.1.length≤100)∧Pos a q:=by
 obtain ⟨v1,q1,t1,e1,h0,h1,p1⟩:=below_ok a p s 4 ha hp (by omega) (by omega)
 obtain ⟨n,rfl⟩:∃n:Nat,v1=n:=⟨v1.toNat,by omega⟩
 obtain ⟨q2,t2,m,e2,hl,hm,p2⟩:=methods_loop a ha sc hs (a,p,s) rfl (n+1) FUEL q1 t1 [] (by rw [FUEL_eq]; omega) (by simp; omega) (fun x hx=>by cases hx) p1
 have e3:w64 (1+(n:Int))=((n+1:Nat):Int):=by rw [w64_sm (by omega) (by omega)]; omega
 unfold S.l5Methods
 rw [e1,qb]
 simp only
 rw [e3,e2]
 exact ⟨m,q2,t2,rfl,by simp at hl; omega,hm,p2⟩
theorem anyMethod_ok (a:Code) (p s:Int) (sc:List Int) (ha:a.length≤1048576) (hp:Pos a p) (hs:schOk sc=true) :
  ∃(f:Mf) (q t:Int),S.l5AnyMethod (a,p,s) sc=some (f,(a,q,t))∧f.2.1.length≤100∧Pos a q:=by
 have hl:=sch_len hs
 obtain ⟨f,q1,t1,e1,h1,p1⟩:=method_ok a p s sc ha hp hs
 obtain ⟨v2,q2,t2,e2,-,-,p2⟩:=below_ok a q1 t1 10 ha p1 (by omega) (by omega)
 unfold S.l5AnyMethod
 rw [IsSchema_S sc (by omega),hs,qb,if_pos rfl,e1,qb,qb]
 simp only
 rw [e2,qb]
 simp only
 by_cases c0:v2=0
 ·obtain ⟨v3,q3,t3,e3,-,p3⟩:=pick_ok a q2 t2 [-1,9,10] ha p2 (by simp) (by simp)
  rw [if_pos (decide_eq_true c0),e3]
  exact ⟨_,q3,t3,rfl,by show f.2.1.length≤100; omega,p3⟩
 ·rw [if_neg (by simpa using c0)]
  by_cases c1:v2=1
  ·obtain ⟨v3,q3,t3,e3,-,-,p3⟩:=below_ok a q2 t2 5 ha p2 (by omega) (by omega)
   rw [if_pos (decide_eq_true c1),e3,qb,app_eq _ _ (by simp; omega)]
   exact ⟨_,q3,t3,rfl,by show (f.2.1++[_]).length≤100; simp; omega,p3⟩
  ·rw [if_neg (by simpa using c1)]
   by_cases c2:v2=2
   ·obtain ⟨v3,q3,t3,e3,-,p3⟩:=pick_ok a q2 t2 [0,99,100] ha p2 (by simp) (by simp)
    rw [if_pos (decide_eq_true c2),e3]
    exact ⟨_,q3,t3,rfl,by show f.2.1.length≤100; omega,p3⟩
   ·rw [if_neg (by simpa using c2)]
    by_cases c3:v2=3
    ·obtain ⟨v3,q3,t3,e3,-,p3⟩:=pick_ok a q2 t2 [-1,99,100] ha p2 (by simp) (by simp)
     rw [if_pos (decide_eq_true c3),e3]
     exact ⟨_,q3,t3,rfl,by show f.2.1.length≤100; omega,p3⟩
    ·rw [if_neg (by simpa using c3)]
     exact ⟨_,q2,t2,rfl,by show f.2.1.length≤100; omega,p2⟩
theorem access_loop (a:Code) (ha:a.length≤1048576) (l:List Mf) (c:Code × Int × Int) (hc:c.1=a) (r:Nat) (hr:r<l.length) (hn:l[r].2.1.length≤100) :
  ∀(n K:Nat) (p s:Int) (v:List Int) (i:Nat),i+n=l[r].2.1.length→v.length=i→n<K→Pos a p→∃q t m,S.l5Access_l1 l c K (r:Int) v p s (i:Int)=some ((r:Int),m,q,t)∧m.length≤100∧Pos a q:=by
 intro n
 induction n with
 | zero =>
  intro K p s v i h1 h2 hK hp
  obtain ⟨K,rfl⟩:∃k,K=k+1:=⟨K-1,by omega⟩
  rw [S.l5Access_l1,idx_nat l hr,qb,if_neg (by simp; omega)]
  exact ⟨_,_,_,rfl,by omega,hp⟩
 | succ n ih =>
  intro K p s v i h1 h2 hK hp
  obtain ⟨K,rfl⟩:∃k,K=k+1:=⟨K-1,by omega⟩
  obtain ⟨v1,q1,t1,e1,-,-,p1⟩:=below_ok a p s 4 ha hp (by omega) (by omega)
  rw [S.l5Access_l1,idx_nat l hr,qb,if_pos (decide_eq_true (by omega)),hc,e1,qb,app_eq _ _ (by simp; omega),qb,w64_succ (by omega)]
  exact ih K q1 t1 _ (i+1) (by omega) (by simp; omega) (by omega) p1
theorem access_ok (a:Code) (p s:Int) (l:List Mf) (ha:a.length≤1048576) (hp:Pos a p) (hl:l.length≤5) (hm:∀m∈l,m.2.1.length≤100) :
  ∃(f:Fa) (q t:Int),S.l5Access (a,p,s) l=some (f,(a,q,t))∧f.2.length≤100∧Pos a q:=by
 unfold S.l5Access
 by_cases c0:(l.length:Int)=0
 ·rw [if_pos (decide_eq_true c0)]
  exact ⟨(0,[]),p,s,rfl,by simp,hp⟩
 ·obtain ⟨v1,q1,t1,e1,h0,h1,p1⟩:=below_ok a p s (l.length:Int) ha hp (by omega) (by omega)
  obtain ⟨r,rfl⟩:∃r:Nat,v1=r:=⟨v1.toNat,by omega⟩
  have hr:r<l.length:=by omega
  obtain ⟨q2,t2,m,e2,hml,p2⟩:=access_loop a ha l (a,p,s) rfl r hr (hm _ (qd hr)) l[r].2.1.length FUEL q1 t1 [] 0 (by omega) rfl (by have:=hm _ (qd hr); rw [FUEL_eq]; omega) p1
  have e2':S.l5Access_l1 l (a,p,s) FUEL (r:Int) [] q1 t1 0=some ((r:Int),m,q2,t2):=e2
  rw [if_neg (by simpa using c0),e1,qb]
  simp only
  rw [e2']
  exact ⟨((r:Int),m),q2,t2,rfl,hml,p2⟩
theorem anyAccess_ok (a:Code) (p s:Int) (l:List Mf) (ha:a.length≤1048576) (hp:Pos a p) (hl:l.length≤5) (hm:∀m∈l,m.2.1.length≤100) :
  ∃(f:Fa) (q t:Int),S.l5AnyAccess (a,p,s) l=some (f,(a,q,t))∧f.2.length≤101∧Pos a q:=by
 obtain ⟨f,q1,t1,e1,h1,p1⟩:=access_ok a p s l ha hp hl hm
 obtain ⟨v2,q2,t2,e2,-,-,p2⟩:=below_ok a q1 t1 12 ha p1 (by omega) (by omega)
 unfold S.l5AnyAccess
 rw [e1,qb]
 simp only
 rw [e2,qb]
 simp only
 by_cases c0:v2=0
 ·obtain ⟨v3,q3,t3,e3,-,-,p3⟩:=below_ok a q2 t2 7 ha p2 (by omega) (by omega)
  rw [if_pos (decide_eq_true c0),e3]
  exact ⟨_,q3,t3,rfl,by show f.2.length≤101; omega,p3⟩
 ·rw [if_neg (by simpa using c0)]
  by_cases c1:v2=1
  ·obtain ⟨v3,q3,t3,e3,-,p3⟩:=pick_ok a q2 t2 [-1,3,10] ha p2 (by simp) (by simp)
   rw [if_pos (decide_eq_true c1),e3,qb,app_eq _ _ (by simp; omega)]
   exact ⟨_,q3,t3,rfl,by show (f.2++[v3]).length≤101; simp; omega,p3⟩
  ·rw [if_neg (by simpa using c1)]
   exact ⟨_,q2,t2,rfl,by show f.2.length≤101; omega,p2⟩
def addAll (l acc:List Fa):List Fa:=l.foldl (fun acc e=>addF acc e) acc
def unF (l:List ((Int × List Int) × List Fa)) (acc:List Fa):List Fa:=l.foldl (fun acc t=>addAll t.2 acc) acc
theorem addAll_sm (l acc:List Fa) (hl:SZ.sm l) (ha:SZ.sm acc) (hn:acc.length+l.length≤1048576):SZ.sm (addAll l acc)∧(addAll l acc).length≤acc.length+l.length:=by
 induction l generalizing acc with
 | nil=>exact ⟨ha,by simp [addAll]⟩
 | cons e l ih =>
  have he:=hl.2 e (qu ..)
  have hl':SZ.sm l:=⟨by have:=hl.1; simp at this; omega,fun x hx=>hl.2 x (Qb _ hx)⟩
  have h1:=addF_len acc e
  simp only [qf] at hn
  obtain ⟨h2,h3⟩:=ih (addF acc e) hl' (sm_add ha he (by omega)) (by omega)
  exact ⟨h2,by show (addAll l (addF acc e)).length≤_; rw [qf]; omega⟩
theorem add_loop (f:Nat→List Fa→Int→Option (List Fa)) (a acc:List Fa) (ha:SZ.sm a) (hacc:SZ.sm acc) (hn:acc.length+a.length≤1048576) (he:∀k x,f (k+1) x (a.length:Int)=some x)
  (hs:∀k (x:List Fa) (i:Nat) (hi:i<a.length),SZ.sm x→f (k+1) x (i:Int)=f k (addF x a[i]) ((i+1:Nat):Int)):f FUEL acc 0=some (addAll a acc):=by
 have hl:=ha.1
 obtain ⟨k,s',h1,rfl⟩:=loop_inv0 f (fun i x=>x=addAll (a.take i) acc) a.length (by omega) acc rfl (fun k i x hi hx=>by
  have hsm:SZ.sm x:=by
   rw [hx]
   exact (addAll_sm (a.take i) acc ⟨by rw [qg]; omega,fun e he=>ha.2 e (qs he)⟩ hacc (by rw [qg]; omega)).1
  refine ⟨_,hs k x i hi hsm,?_⟩
  rw [hx]; unfold addAll; rw [qm,qh hi,Qc]; rfl)
 rw [h1,he,ql]
theorem unF_sm (l:List ((Int × List Int) × List Fa)):∀acc:List Fa,SZ.sm acc→acc.length+szs l≤1048576→(∀t∈l,SZ.sm t)→SZ.sm (unF l acc)∧(unF l acc).length≤acc.length+szs l:=by
 induction l with
 | nil=>intro acc h _ _; exact ⟨h,by simp [unF]⟩
 | cons t l ih =>
  intro acc ha hn hm
  have hz:szs (t::l)=SZ.sz t+szs l:=rfl
  have ht:SZ.sz t=SZ.sz t.1+(t.2.length+szs t.2):=rfl
  obtain ⟨h1,h2⟩:=addAll_sm t.2 acc (hm t (qu ..)).2 ha (by omega)
  obtain ⟨h3,h4⟩:=ih (addAll t.2 acc) h1 (by omega) (fun x hx=>hm x (Qb _ hx))
  exact ⟨h3,by show (unF l (addAll t.2 acc)).length≤_; omega⟩
theorem szs_takeT {α:Type} [SZ α] (a:List α):∀i,szs (a.take i)≤szs a:=by
 induction a with
 | nil=>intro i; simp
 | cons x a ih =>
  intro i
  cases i with
  | zero=>simp [szs]
  | succ i=>have:=ih i; simp only [List.take_succ_cons,szs]; omega
theorem szs_get {α:Type} [SZ α] (a:List α):∀i (h:i<a.length),szs (a.take i)+SZ.sz a[i]≤szs a:=by
 induction a with
 | nil=>intro i h; simp at h
 | cons x a ih =>
  intro i h
  cases i with
  | zero=>simp [szs]
  | succ i=>have:=ih i (by simpa using h); simp only [List.take_succ_cons,szs,List.getElem_cons_succ]; omega
theorem un_loop (f:Nat→List Fa→Int→Option (List Fa)) (a:List ((Int × List Int) × List Fa)) (z:SZ.sz a≤1048576) (he:∀k x,f (k+1) x (a.length:Int)=some x)
  (hs:∀k (x:List Fa) (i:Nat) (hi:i<a.length),SZ.sm x→x.length+a[i].2.length≤1048576→f (k+1) x (i:Int)=f k (addAll a[i].2 x) ((i+1:Nat):Int)):f FUEL [] 0=some (unF a []):=by
 have hl:a.length+szs a≤1048576:=z
 have hm:=sm_of z
 obtain ⟨k,s',h1,rfl⟩:=loop_inv0 f (fun i x=>x=unF (a.take i) []) a.length (by omega) [] (by simp [unF]) (fun k i x hi hx=>by
  have h5:=szs_takeT a i
  have h6:=szs_get a i hi
  obtain ⟨h7,h8⟩:=unF_sm (a.take i) [] sm_nil (by simp; omega) (fun t ht=>hm.2 t (qs ht))
  have ht:SZ.sz a[i]=SZ.sz a[i].1+(a[i].2.length+szs a[i].2):=rfl
  refine ⟨_,hs k x i hi (hx ▸ h7) (by rw [hx]; simp at h8; omega),?_⟩
  rw [hx]; unfold unF; rw [qm,qh hi,Qc]; rfl)
 rw [h1,he,ql]
theorem UnionOf_S (l:List ((Int × List Int) × List Fa)) (z:SZ.sz l≤1048576):S.UnionOf l=some (unF l []):=by
 have hm:=sm_of z
 unfold S.UnionOf
 rw [un_loop (S.UnionOf_l1 l) l z (fun k x=>by rw [S.UnionOf_l1,if_neg (by simp)]) (fun k x i hi hx hn=>by
  have hti:=(hm.2 _ (qd hi)).2
  rw [S.UnionOf_l1,if_pos (by simpa using hi),add_loop (S.UnionOf_l2 l i) l[i].2 x hti hx hn (fun k x=>by rw [S.UnionOf_l2,idx_nat l hi,qb,if_neg (by simp)]) (fun k x j hj hx=>by
   rw [S.UnionOf_l2,idx_nat l hi,qb,if_pos (by simpa using hj),qb,idx_nat _ hj,qb,AddFact_S x _ hx (hti.2 _ (qd hj)),qb,w64_succ (by have:=hti.1; omega)]),qb,w64_succ (by have:=hm.1; omega)])]
 rfl
theorem UnionOf_M (l:List ((Int × List Int) × List Fa)) (z:SZ.sz l≤1048576):M.UnionOf l=some (unF l []):=by
 have hm:=sm_of z
 unfold M.UnionOf
 rw [un_loop (M.UnionOf_l1 l) l z (fun k x=>by rw [M.UnionOf_l1,if_neg (by simp)]) (fun k x i hi hx hn=>by
  have hti:=(hm.2 _ (qd hi)).2
  rw [M.UnionOf_l1,if_pos (by simpa using hi),idx_nat l hi,qb,add_loop (M.UnionOf_l2 l[i]) l[i].2 x hti hx hn (fun k x=>by rw [M.UnionOf_l2,if_neg (by simp)]) (fun k x j hj hx=>by
   have ha:=added_M x l[i].2[j] hx (hti.2 _ (qd hj))
   rw [M.UnionOf_l2,if_pos (by simpa using hj),idx_nat _ hj,qb,show (l[i].2[j].1,l[i].2[j].2)=l[i].2[j] from rfl,ha,qb,w64_succ (by have:=hti.1; omega)]),qb,w64_succ (by have:=hm.1; omega)])]
 rfl
def nthF (l:List Fa) (i:Nat):Fa:=l.getD i (0,[])
theorem idx_nthF (l:List Fa) {i:Nat} (h:i<l.length):idx l (i:Int)=some (nthF l i):=by rw [idx_nat l h]; unfold nthF; simp [h]
theorem nthF_mem {l:List Fa} {i:Nat} (h:i<l.length):nthF l i∈l:=by unfold nthF; simp [h]
def factAt (s:List Int) (l:List Fa) (i:Nat):Bool:=factOk s (nthF l i)&&!(decide (0<i)&&decide (0≤cmpF (nthF l (i-1)) (nthF l i)))
def factsOk (s:List Int) (l:List Fa):Bool:=(List.range l.length).all (factAt s l)&&(schOk s&&decide ((l.length:Int)≤24))
theorem AreFacts_S (s:List Int) (l:List Fa) (hs:SZ.sm s) (hl:SZ.sm l):S.AreFacts s l=some (factsOk s l):=by
 obtain ⟨h1,h2⟩:=hl
 have h0:=hs.1
 have h3:∀i,i<l.length→(nthF l i).2.length≤4294967296:=fun i hi=>by have:=(h2 _ (nthF_mem hi)).2.1; omega
 unfold S.AreFacts
 rw [all_loopN (S.AreFacts_l1 l s) l.length (factAt s l) false (by omega) (fun k=>by rw [S.AreFacts_l1,if_neg (by simp)]) (fun k i hi=>by
  rw [S.AreFacts_l1,if_pos (by simpa using hi),idx_nthF l hi,qb,IsFact_S s _ (by omega) (h3 i hi),qb,w64_succ (by omega)]
  unfold factAt
  cases h4:factOk s (nthF l i)
  ·simp
  ·by_cases h5:0<i
   ·rw [w64_pred h5 (by omega),idx_nthF l (show i-1<l.length by omega)]
    simp only [qb,CompareFacts_S _ _ (h3 (i-1) (by omega)) (h3 i hi)]
    by_cases h6:0≤cmpF (nthF l (i-1)) (nthF l i) <;> simp [h5,h6]
   ·simp [h5]),IsSchema_S s (by omega)]
 unfold factsOk
 cases (List.range l.length).all (factAt s l)
 ·rfl
 ·cases schOk s <;> simp
theorem AreFacts_M (s:List Int) (l:List Fa) (hs:SZ.sm s) (hl:SZ.sm l):M.AreFacts s l=some (factsOk s l):=by
 obtain ⟨h1,h2⟩:=hl
 have h0:=hs.1
 have h3:∀i,i<l.length→(nthF l i).2.length≤4294967296:=fun i hi=>by have:=(h2 _ (nthF_mem hi)).2.1; omega
 unfold M.AreFacts
 rw [all_loopN (M.AreFacts_l1 l s) l.length (factAt s l) false (by omega) (fun k=>by rw [M.AreFacts_l1,if_neg (by simp)]) (fun k i hi=>by
  rw [M.AreFacts_l1,if_pos (by simpa using hi),idx_nthF l hi,qb,IsFact_M s _ (by omega) (h3 i hi),qb,w64_succ (by omega)]
  unfold factAt
  cases h4:factOk s (nthF l i)
  ·simp
  ·by_cases h5:0<i
   ·rw [w64_pred h5 (by omega),idx_nthF l (show i-1<l.length by omega)]
    have h7:=CompareFacts_M _ _ (h3 (i-1) (by omega)) (h3 i hi)
    simp only [qb,h7]
    by_cases h6:0≤cmpF (nthF l (i-1)) (nthF l i) <;> simp [h5,h6]
   ·simp [h5]),IsSchema_M s (by omega)]
 unfold factsOk
 cases (List.range l.length).all (factAt s l)
 ·rfl
 ·cases schOk s <;> simp

def nthI (l:List Int) (i:Nat):Int:=l.getD i 0
theorem idx_nthI (l:List Int) {i:Nat} (h:i<l.length):idx l (i:Int)=some (nthI l i):=by rw [idx_nat l h]; unfold nthI; simp [h]
def ascAt (l:List Int) (i:Nat):Bool:=!(decide (0<i)&&decide (nthI l i≤nthI l (i-1)))
def ascOk (l:List Int):Bool:=(List.range l.length).all (ascAt l)
theorem ascending_M (l:List Int) (h:l.length≤1048576):M.ascending l=some (ascOk l):=by
 unfold M.ascending ascOk
 rw [all_loopN (M.ascending_l1 l) l.length (ascAt l) false (by omega) (fun k=>by rw [M.ascending_l1,if_neg (by simp)]) (fun k i hi=>by
  rw [M.ascending_l1,if_pos (by simpa using hi),w64_succ (by omega)]
  unfold ascAt
  by_cases h5:0<i
  ·rw [w64_pred h5 (by omega),idx_nthI l hi,idx_nthI l (show i-1<l.length by omega)]
   by_cases h6:nthI l i≤nthI l (i-1) <;> simp [h5,h6]
  ·simp [h5])]
 cases (List.range l.length).all (ascAt l) <;> rfl
theorem all_range {α:Type} (l:List α) (d:α) (q:α→Bool):(List.range l.length).all (fun i=>q (l.getD i d))=l.all q:=by
 rw [Ql]
 simp only [qx,List.mem_range]
 refine ⟨fun h x hx=>?_,fun h i hi=>?_⟩
 ·obtain ⟨i,hi,rfl⟩:=qy hx
  have:=h i hi
  simpa [hi] using this
 ·have:=h l[i] (qd hi)
  simpa [hi] using this
theorem all_and {α:Type} (l:List α) (p q:α→Bool):l.all (fun e=>p e&&q e)=(l.all p&&l.all q):=by
 rw [Ql]
 simp only [qx,qi]
 exact ⟨fun h=>⟨fun x hx=>(h x hx).1,fun x hx=>(h x hx).2⟩,fun h x hx=>⟨h.1 x hx,h.2 x hx⟩⟩

abbrev Me:=Int × List Int × Int × Int × Int
def fitsOk (m:Me) (ar:Int):Bool:=ascOk m.2.1&&(m.2.1.all fun i=>inR i 0 (ar-1))&&(inR m.2.2.1 0 9&&inR m.2.2.2.1 0 99&&inR m.2.2.2.2 1 99)
def methOk (s:List Int) (m:Me):Bool:=relOk s m.1&&fitsOk m (arity s m.1)
theorem arity_r {s:List Int} {r:Int} (h:relOk s r=true):1≤arity s r∧arity s r≤3:=by
 have h1:=idx_arity h
 unfold relOk schOk at h
 simp only [qi,qx] at h
 obtain ⟨h2,h3,h4⟩:=idx_some h1
 have:=h.1.1 _ (List.mem_of_getElem? h4)
 rwa [inR_iff] at this
theorem fits_M (m:Me) (ar:Int) (h:m.2.1.length≤1048576) (ha:1≤ar∧ar≤3):M.Method_fits m ar=some (fitsOk m ar):=by
 unfold M.Method_fits fitsOk M.isCost
 rw [ascending_M _ h,Slices_ContainsFunc_Lint_int_M_Method_fits_c1_eq m.2.1 ar (fun i=>!inR i 0 (ar-1)) (by omega) (fun e he=>by unfold M.Method_fits_c1; rw [inM,w64_sm (by omega) (by omega)]; rfl),inM,inM,inM,any_not]
 cases ascOk m.2.1 <;> cases m.2.1.all (fun i=>inR i 0 (ar-1)) <;> cases inR m.2.2.1 0 9 <;> cases inR m.2.2.2.1 0 99 <;> rfl
theorem IsMethod_M (s:List Int) (m:Me) (hs:SZ.sm s) (hm:SZ.sm m):M.IsMethod s m=some (methOk s m):=by
 have h0:=hs.1
 unfold M.IsMethod methOk
 rw [hasRel_M s _ (by omega)]
 cases hr:relOk s m.1
 ·rfl
 ·rw [idx_arity hr,qb]
  simp only [qb,if_true,fits_M m _ hm.2.1.1 (arity_r hr),Qs]
theorem IsMethod_S (s:List Int) (m:Me) (hs:SZ.sm s) (hm:SZ.sm m):S.IsMethod s m=some (methOk s m):=by
 have h0:=hs.1
 have h1:=hm.2.1.1
 unfold S.IsMethod methOk
 rw [IsSchema_S s (by omega),inS,inS,inS,inS]
 cases h2:schOk s
 ·simp [relOk,h2]
 ·have hl:=sch_len h2
  rw [w64_sm (by omega) (by omega)]
  cases h3:inR m.1 0 ((s.length:Int)-1)
  ·simp [relOk,h2,h3]
  ·have hr:relOk s m.1=true:=by simp [relOk,h2,h3]
   have har:=arity_r hr
   have hlo:=all_loopN (S.IsMethod_l1 m s) m.2.1.length (fun i=>inR (nthI m.2.1 i) 0 (arity s m.1-1)&&ascAt m.2.1 i) false (by omega) (fun k=>by rw [S.IsMethod_l1,if_neg (by simp)]) (fun k i hi=>by
    rw [S.IsMethod_l1,if_pos (by simpa using hi),idx_nthI _ hi,idx_arity hr,w64_succ (by omega)]
    simp only [qb,inS,w64_sm (show -4611686018427387904≤arity s m.1-1 by omega) (by omega)]
    unfold ascAt
    cases inR (nthI m.2.1 i) 0 (arity s m.1-1)
    ·simp
    ·by_cases h5:0<i
     ·rw [w64_pred h5 (by omega),idx_nthI _ (show i-1<m.2.1.length by omega)]
      by_cases h6:nthI m.2.1 i≤nthI m.2.1 (i-1) <;> simp [h5,h6]
     ·simp [h5])
   rw [hlo,all_and]
   have e1:(List.range m.2.1.length).all (fun i=>inR (nthI m.2.1 i) 0 (arity s m.1-1))=m.2.1.all (fun i=>inR i 0 (arity s m.1-1)):=all_range m.2.1 0 (fun i=>inR i 0 (arity s m.1-1))
   rw [e1,hr]
   unfold fitsOk ascOk
   cases inR m.2.2.1 0 9 <;> cases inR m.2.2.2.1 0 99 <;> cases inR m.2.2.2.2 1 99 <;> cases m.2.1.all (fun i=>inR i 0 (arity s m.1-1)) <;> cases (List.range m.2.1.length).all (ascAt m.2.1) <;> rfl
def methsOk (s:List Int) (l:List Me):Bool:=schOk s&&decide ((l.length:Int)≤5)&&l.all (methOk s)
theorem AreMethods_S (s:List Int) (l:List Me) (hs:SZ.sm s) (hl:SZ.sm l):S.AreMethods s l=some (methsOk s l):=by
 have h0:=hs.1
 have h1:=hl.1
 unfold S.AreMethods methsOk
 rw [all_loop (S.AreMethods_l1 l s) l (methOk s) false (by omega) (fun k=>by rw [S.AreMethods_l1,if_neg (by simp)]) (fun k i hi=>by
  rw [S.AreMethods_l1,if_pos (by simpa using hi),idx_nat l hi,qb,IsMethod_S s _ hs (hl.2 _ (qd hi)),qb,w64_succ (by omega)]
  cases methOk s l[i] <;> rfl),IsSchema_S s (by omega)]
 cases l.all (methOk s)
 ·simp
 ·cases schOk s <;> simp
theorem AreMethods_M (s:List Int) (l:List Me) (hs:SZ.sm s) (hl:SZ.sm l):M.AreMethods s l=some (methsOk s l):=by
 have h0:=hs.1
 have h1:=hl.1
 unfold M.AreMethods methsOk
 rw [IsSchema_M s (by omega),Slices_ContainsFunc_Limpl_Method_impl_Method_M_AreMethods_c1_eq l s (fun m=>!methOk s m) (by omega) (fun e he=>by
  have:=IsMethod_M s e hs (hl.2 _ he)
  unfold M.AreMethods_c1; rw [show (e.1,e.2.1,e.2.2.1,e.2.2.2.1,e.2.2.2.2)=e from rfl,this]; rfl),any_not]
 cases schOk s <;> cases l.all (methOk s) <;> by_cases h:(l.length:Int)≤5 <;> simp [h]
abbrev Ac:=Int × List Int
def methAt (l:List Me) (i:Int):Me:=l.getD i.toNat (0,[],0,0,0)
def accOk (s:List Int) (l:List Me) (a:Ac):Bool:=methsOk s l&&inR a.1 0 ((l.length:Int)-1)&&decide ((a.2.length:Int)=((methAt l a.1).2.1.length:Int))&&valsOk a.2
theorem meths_len {s:List Int} {l:List Me} (h:methsOk s l=true):(l.length:Int)≤5:=by
 unfold methsOk at h; simp at h; omega
theorem IsAccess_S (s:List Int) (l:List Me) (a:Ac) (hs:SZ.sm s) (hl:SZ.sm l) (ha:SZ.sm a):S.IsAccess s l a=some (accOk s l a):=by
 have h2:=ha.2.1
 unfold S.IsAccess accOk
 rw [AreMethods_S s l hs hl,inS]
 cases h:methsOk s l
 ·rfl
 ·have hlen:=meths_len h
  rw [w64_sm (by omega) (by omega)]
  cases h3:inR a.1 0 ((l.length:Int)-1)
  ·rfl
  ·rw [idx_in (0,[],0,0,0) h3]
   have hlo:=all_loop (S.IsAccess_l1 a) a.2 (fun n=>inR n 0 9) false (by omega) (fun k=>by rw [S.IsAccess_l1,if_neg (by simp)]) (fun k i hi=>by
    rw [S.IsAccess_l1,if_pos (by simpa using hi),idx_nat _ hi,qb,inS,qb,w64_succ (by omega)]
    cases inR a.2[i] 0 9 <;> rfl)
   rw [hlo]
   unfold methAt valsOk
   generalize l.getD a.1.toNat (0,[],0,0,0)=m
   by_cases h4:(a.2.length:Int)=(m.2.1.length:Int)
   ·cases h5:a.2.all (fun n=>inR n 0 9) <;> simp [h4]
   ·simp [h4]
theorem IsAccess_M (s:List Int) (l:List Me) (a:Ac) (hs:SZ.sm s) (hl:SZ.sm l) (ha:SZ.sm a):M.IsAccess s l a=some (accOk s l a):=by
 have h2:=ha.2.1
 unfold M.IsAccess accOk
 rw [AreMethods_M s l hs hl,inM]
 cases h:methsOk s l
 ·rfl
 ·have hlen:=meths_len h
  rw [w64_sm (by omega) (by omega)]
  cases h3:inR a.1 0 ((l.length:Int)-1)
  ·rfl
  ·rw [idx_in (0,[],0,0,0) h3,areValues_M _ (by omega)]
   unfold methAt
   generalize l.getD a.1.toNat (0,[],0,0,0)=m
   by_cases h4:(a.2.length:Int)=(m.2.1.length:Int) <;> simp [h4]

abbrev To:=Ac × List Fa
def toldOk (s:List Int) (l:List Me) (t:To):Bool:=accOk s l t.1&&factsOk s t.2
theorem IsTold_S (s:List Int) (l:List Me) (t:To) (hs:SZ.sm s) (hl:SZ.sm l) (ht:SZ.sm t):S.IsTold s l t=some (toldOk s l t):=by
 unfold S.IsTold toldOk
 rw [show (t.1.1,t.1.2)=t.1 from rfl,IsAccess_S s l _ hs hl ht.1,AreFacts_S s _ hs ht.2]
 cases accOk s l t.1 <;> simp
theorem IsTold_M (s:List Int) (l:List Me) (t:To) (hs:SZ.sm s) (hl:SZ.sm l) (ht:SZ.sm t):M.IsTold s l t=some (toldOk s l t):=by
 unfold M.IsTold toldOk
 rw [show (t.1.1,t.1.2)=t.1 from rfl,IsAccess_M s l _ hs hl ht.1,AreFacts_M s _ hs ht.2]
 cases accOk s l t.1 <;> simp
theorem dfl_eq {α:Type} (del:α→Option Bool) (q:α→Bool):∀(rest kept:List α),(∀e∈rest,del e=some (q e))→dfl del kept rest=some (kept++rest.filter (fun e=>!q e))
 | [],kept,_=>by simp [dfl]
 | v::rest,kept,h=>by
  unfold dfl
  rw [h v (qu ..),qb,dfl_eq del q rest _ (fun e he=>h e (Qb _ he)),Qe]
  cases q v <;> simp
theorem delete_eq {α:Type} (del:α→Option Bool) (q:α→Bool) (a:List α) (h:∀e∈a,del e=some (q e)) :
  (if fidx q a 0=-1 then some a else if 0≤fidx q a 0∧fidx q a 0<(a.length:Int) then dfl del (a.take (fidx q a 0).toNat) (a.drop ((fidx q a 0).toNat+1)) else none)=some (a.filter (fun e=>!q e)):=by
 rcases fidx_spec q a 0 with ⟨h1,h2⟩ | ⟨j,hj,h1,h2,h3⟩
 ·rw [if_pos h1]
  congr 1
  symm
  rw [List.filter_eq_self]
  intro e he
  rw [List.any_eq_false] at h2
  simpa using h2 e he
 ·rw [if_neg (by omega),if_pos (by omega),show (fidx q a 0).toNat=j by omega,dfl_eq del q _ _ (fun e he=>h e (Qh he))]
  congr 1
  have e1:(a.take j).filter (fun e=>!q e)=a.take j:=by
   rw [List.filter_eq_self]
   intro e he
   obtain ⟨k,hk,rfl⟩:=qy he
   rw [qg] at hk
   simpa using h3 k (by omega)
  conv=>rhs; rw [←Qg j a,qe hj,Qk,e1,Qe]
  simp [h2]

theorem cmpL_trans:∀(a b c:List Int),cmpL a b<0→cmpL b c<0→cmpL a c<0
 | [],[],c,h,_=>by simp [cmpL] at h
 | [],_::_,[],h1,h2=>by simp [cmpL] at h2
 | [],_::_,_::_,h1,h2=>by simp [cmpL]
 | _::_,[],c,h1,h2=>by simp [cmpL] at h1
 | _::_,_::_,[],h1,h2=>by simp [cmpL] at h2
 | x::a,y::b,z::c,h1,h2=>by
  unfold cmpL at h1 h2 ⊢
  by_cases g1:x<y
  ·by_cases g2:y<z
   ·rw [if_pos (by omega)]; omega
   ·by_cases g3:z<y
    ·rw [if_neg g2,if_pos g3] at h2; omega
    ·rw [if_pos (by omega)]; omega
  ·by_cases g1':y<x
   ·rw [if_neg g1,if_pos g1'] at h1; omega
   ·rw [if_neg g1,if_neg g1'] at h1
    obtain rfl:x=y:=by omega
    by_cases g2:x<z
    ·rw [if_pos g2]; omega
    ·by_cases g3:z<x
     ·rw [if_neg g2,if_pos g3] at h2; omega
     ·rw [if_neg g2,if_neg g3] at h2 ⊢
      exact cmpL_trans a b c h1 h2
theorem cmpF_trans (a b c:Fa) (h1:cmpF a b<0) (h2:cmpF b c<0):cmpF a c<0:=by
 unfold cmpF at h1 h2 ⊢
 by_cases g1:a.1<b.1
 ·by_cases g2:b.1<c.1
  ·rw [if_pos (by omega)]; omega
  ·by_cases g3:c.1<b.1
   ·rw [if_neg g2,if_pos g3] at h2; omega
   ·rw [if_pos (by omega)]; omega
 ·by_cases g1':b.1<a.1
  ·rw [if_neg g1,if_pos g1'] at h1; omega
  ·rw [if_neg g1,if_neg g1'] at h1
   by_cases g2:b.1<c.1
   ·rw [if_pos (by omega)]; omega
   ·by_cases g3:c.1<b.1
    ·rw [if_neg g2,if_pos g3] at h2; omega
    ·rw [if_neg g2,if_neg g3] at h2
     rw [if_neg (by omega),if_neg (by omega)]
     exact cmpL_trans _ _ _ h1 h2
abbrev Asc (l:List Fa):Prop:=l.Pairwise fun a b=>cmpF a b<0
theorem asc_add (l:List Fa) (f:Fa) (h:Asc l):Asc (addF l f):=by
 unfold addF
 split
 ·exact h
 ·rename_i hn
  generalize hp:l.findIdx (gtF f)=p
  have hsplit:Asc (l.take p++l.drop p):=by rw [Qg]; exact h
  obtain ⟨h1,h2,h3⟩:=List.pairwise_append.1 hsplit
  have hne:∀e∈l,cmpF e f≠0:=by
   intro e he h0
   apply hn
   unfold hasF
   exact List.any_eq_true.2 ⟨e,he,by simpa using h0⟩
  have hb:∀e∈l.take p,cmpF e f<0:=by
   intro e he
   obtain ⟨i,hi,rfl⟩:=qy he
   rw [qg] at hi
   have h9:=Qj (xs:=l) (p:=gtF f) (i:=i) (by omega)
   have h8:=hne _ (qs he)
   rw [List.getElem_take] at h8 ⊢
   unfold gtF at h9
   simp at h9
   omega
  have ha:∀e∈l.drop p,cmpF f e<0:=by
   intro e he
   have hlt:p<l.length:=by
    by_cases h:p<l.length
    ·exact h
    ·rw [qt (by omega)] at he; cases he
   have hg:=Qm (xs:=l) (p:=gtF f) (w:=by rw [hp]; exact hlt)
   simp only [hp] at hg
   have hf:cmpF f l[p]<0:=by
    have:=cmpF_anti f l[p]
    unfold gtF at hg
    simp at hg
    omega
   rw [qe hlt] at he h2
   rcases List.mem_cons.1 he with rfl | he
   ·exact hf
   ·exact cmpF_trans _ _ _ hf ((List.pairwise_cons.1 h2).1 e he)
  rw [qv]
  refine List.pairwise_append.2 ⟨h1,?_,?_⟩
  ·exact List.pairwise_cons.2 ⟨ha,h2⟩
  ·intro a hma b hmb
   rcases List.mem_cons.1 hmb with rfl | hmb
   ·exact hb a hma
   ·exact h3 a hma b hmb
theorem mem_addF {l:List Fa} {f e:Fa} (h:e∈addF l f):e∈l∨e=f:=by
 unfold addF at h
 split at h
 ·exact .inl h
 ·rcases List.mem_append.1 h with h | h
  ·rcases List.mem_append.1 h with h | h
   ·exact .inl (qs h)
   ·exact .inr (List.mem_singleton.1 h)
  ·exact .inl (Qh h)
def fitsF (m:Me) (v:List Int) (f:Fa):Bool:=decide (f.1=m.1)&&(List.range m.2.1.length).all fun i=>decide (nthI f.2 (nthI m.2.1 i).toNat=nthI v i)
def Fit (m:Me) (v:List Int) (f:Fa):Prop:=m.2.1.length=v.length∧v.length≤1048576∧(f.1=m.1→∀i,i<m.2.1.length→0≤nthI m.2.1 i∧nthI m.2.1 i<(f.2.length:Int))
theorem idx_pos (l:List Int) {x:Int} (h:0≤x) (h2:x<(l.length:Int)):idx l x=some (nthI l x.toNat):=by
 obtain ⟨n,rfl⟩:∃n:Nat,x=n:=⟨x.toNat,by omega⟩
 rw [idx_nthI l (by omega)]; simp
theorem l5Fits_S (m:Me) (v:List Int) (f:Fa) (h:Fit m v f):S.l5Fits m v f=some (fitsF m v f):=by
 obtain ⟨h1,h2,h3⟩:=h
 unfold S.l5Fits fitsF
 by_cases hr:f.1=m.1
 ·rw [if_neg (by simp [hr]),all_loopN (S.l5Fits_l1 m v f) m.2.1.length (fun i=>decide (nthI f.2 (nthI m.2.1 i).toNat=nthI v i)) false (by omega) (fun k=>by rw [S.l5Fits_l1,if_neg (by simp)]) (fun k i hi=>by
   obtain ⟨g1,g2⟩:=h3 hr i hi
   rw [S.l5Fits_l1,if_pos (by simpa using hi),idx_nthI v (by omega),qb,idx_nthI _ hi,qb,idx_pos _ g1 g2,qb,w64_succ (by omega)]
   by_cases h9:nthI f.2 (nthI m.2.1 i).toNat=nthI v i <;> simp [h9])]
  simp only [hr,decide_true,Qs]
  cases (List.range m.2.1.length).all fun i=>decide (nthI f.2 (nthI m.2.1 i).toNat=nthI v i) <;> rfl
 ·rw [if_pos (by simp [hr])]; simp [hr]
theorem matches_c1_M (m:Me) (a:Ac) (f:Fa) (h:Fit m a.2 f):M.matches_c1 f m a=some (!fitsF m a.2 f):=by
 obtain ⟨h1,h2,h3⟩:=h
 unfold M.matches_c1 fitsF
 by_cases hr:f.1=m.1
 ·rw [if_neg (by simp [hr]),all_loopN (M.matches_c1_l1 m f a) m.2.1.length (fun i=>decide (nthI f.2 (nthI m.2.1 i).toNat=nthI a.2 i)) true (by omega) (fun k=>by rw [M.matches_c1_l1,if_neg (by simp)]) (fun k i hi=>by
   obtain ⟨g1,g2⟩:=h3 hr i hi
   rw [M.matches_c1_l1,if_pos (by simpa using hi),idx_nthI _ hi,qb,idx_pos _ g1 g2,qb,idx_nthI a.2 (by omega),qb,w64_succ (by omega)]
   by_cases h9:nthI f.2 (nthI m.2.1 i).toNat=nthI a.2 i <;> simp [h9])]
  simp only [hr,decide_true,Qs]
  cases (List.range m.2.1.length).all fun i=>decide (nthI f.2 (nthI m.2.1 i).toNat=nthI a.2 i) <;> rfl
 ·rw [if_pos (by simp [hr])]; simp [hr]
theorem matches_M (l:List Me) (fs:List Fa) (a:Ac) (hf:SZ.sm fs) (hr:inR a.1 0 ((l.length:Int)-1)=true) (h:∀f∈fs,Fit (methAt l a.1) a.2 f):M.matches l fs a=some (fs.filter (fitsF (methAt l a.1) a.2)):=by
 have h0:=hf.1
 unfold M.matches
 rw [idx_in (0,[],0,0,0) hr,copyFacts_id fs hf]
 simp only [qb]
 rw [show l.getD a.1.toNat (0,[],0,0,0)=methAt l a.1 from rfl]
 generalize methAt l a.1=m at h
 unfold Slices.DeleteFunc_Limpl_Fact_impl_Fact_M_matches_c1
 rw [show (m.1,m.2.1,m.2.2.1,m.2.2.2.1,m.2.2.2.2)=m from rfl,show (a.1,a.2)=a from rfl]
 rw [Slices_IndexFunc_Limpl_Fact_impl_Fact_M_matches_c1_eq fs m a (fun f=>!fitsF m a.2 f) (by omega) (fun e he=>matches_c1_M m a e (h e he)),qb,
  delete_eq (fun e=>M.matches_c1 e m a) (fun f=>!fitsF m a.2 f) fs (fun e he=>matches_c1_M m a e (h e he)),qb]
 simp
theorem acc_meth {s:List Int} {l:List Me} {a:Ac} (h:accOk s l a=true):methsOk s l=true∧inR a.1 0 ((l.length:Int)-1)=true∧methAt l a.1∈l∧methOk s (methAt l a.1)=true∧a.2.length=(methAt l a.1).2.1.length:=by
 unfold accOk at h
 simp only [qi,decide_eq_true_eq] at h
 obtain ⟨⟨⟨h1,h2⟩,h3⟩,h4⟩:=h
 have hm:methAt l a.1∈l:=by
  have:=h2
  rw [inR_iff] at this
  unfold methAt
  have hn:a.1.toNat<l.length:=by omega
  simp [hn]
 refine ⟨h1,h2,hm,?_,by omega⟩
 unfold methsOk at h1
 simp only [qi,qx] at h1
 exact h1.2 _ hm
theorem facts_all {s:List Int} {l:List Fa} (h:factsOk s l=true):∀f∈l,factOk s f=true:=by
 unfold factsOk at h
 simp only [qi,qx,List.mem_range] at h
 intro f hf
 obtain ⟨i,hi,rfl⟩:=qy hf
 have:=h.1 i hi
 unfold factAt nthF at this
 simp only [qi] at this
 simpa [hi] using this.1
theorem fit_of {s:List Int} {l:List Me} {a:Ac} {f:Fa} (ha:accOk s l a=true) (hf:factOk s f=true) (hz:a.2.length≤1048576):Fit (methAt l a.1) a.2 f:=by
 obtain ⟨h1,h2,h3,h4,h5⟩:=acc_meth ha
 generalize methAt l a.1=m at h4 h5
 refine ⟨h5.symm,hz,fun hr i hi=>?_⟩
 unfold methOk fitsOk at h4
 simp only [qi,qx] at h4
 have h6:=h4.2.1.2 (nthI m.2.1 i) (by unfold nthI; simp [hi])
 unfold factOk at hf
 simp only [qi,decide_eq_true_eq] at hf
 rw [inR_iff] at h6
 rw [hr] at hf
 omega

def capOk (m:Me) (l:List Fa):Bool:=decide (m.2.2.1=0) || decide ((l.length:Int)≤m.2.2.1)
def selfOk (s:List Int) (l:List Me) (t:To):Bool:=toldOk s l t&&(t.2.all (fitsF (methAt l t.1.1) t.1.2)&&capOk (methAt l t.1.1) t.2)
theorem told_of {s:List Int} {l:List Me} {t:To} (h:toldOk s l t=true):accOk s l t.1=true∧factsOk s t.2=true:=by
 unfold toldOk at h; simpa using h
theorem FitsSelf_S (s:List Int) (l:List Me) (t:To) (hs:SZ.sm s) (hl:SZ.sm l) (ht:SZ.sm t):S.FitsSelf s l t=some (selfOk s l t):=by
 unfold S.FitsSelf selfOk
 rw [show ((t.1.1,t.1.2),t.2)=t from rfl,IsTold_S s l t hs hl ht,qb]
 cases h:toldOk s l t
 ·rfl
 ·obtain ⟨h1,h2⟩:=told_of h
  obtain ⟨-,g2,-,-,-⟩:=acc_meth h1
  have h3:=facts_all h2
  have hz:=ht.1.2.1
  have hn:=ht.2.1
  rw [idx_in (0,[],0,0,0) g2,qb,show l.getD t.1.1.toNat (0,[],0,0,0)=methAt l t.1.1 from rfl]
  have h4:∀f∈t.2,Fit (methAt l t.1.1) t.1.2 f:=fun f hf=>fit_of h1 (h3 f hf) hz
  generalize methAt l t.1.1=m at h4
  rw [all_loop (S.FitsSelf_l1 t m) t.2 (fitsF m t.1.2) false (by omega) (fun k=>by rw [S.FitsSelf_l1,if_neg (by simp)]) (fun k i hi=>by
   have:=l5Fits_S m t.1.2 t.2[i] (h4 _ (qd hi))
   rw [S.FitsSelf_l1,if_pos (by simpa using hi),idx_nat _ hi,qb,show (m.1,m.2.1,m.2.2.1,m.2.2.2.1,m.2.2.2.2)=m from rfl,this,qb,w64_succ (by omega)]
   cases fitsF m t.1.2 t.2[i] <;> rfl)]
  unfold capOk
  cases t.2.all (fitsF m t.1.2)
  ·rfl
  ·by_cases h7:m.2.2.1=0 <;> simp [h7]
theorem FitsSelf_M (s:List Int) (l:List Me) (t:To) (hs:SZ.sm s) (hl:SZ.sm l) (ht:SZ.sm t):M.FitsSelf s l t=some (selfOk s l t):=by
 unfold M.FitsSelf selfOk
 rw [show ((t.1.1,t.1.2),t.2)=t from rfl,show (t.1.1,t.1.2)=t.1 from rfl,IsTold_M s l t hs hl ht,qb]
 cases h:toldOk s l t
 ·rfl
 ·obtain ⟨h1,h2⟩:=told_of h
  obtain ⟨-,g2,-,-,-⟩:=acc_meth h1
  have h3:=facts_all h2
  have hz:=ht.1.2.1
  have hm:=matches_M l t.2 t.1 ht.2 g2 (fun f hf=>fit_of h1 (h3 f hf) hz)
  rw [idx_in (0,[],0,0,0) g2,hm]
  simp only [qj,qc,if_false,qb]
  rw [show l.getD t.1.1.toNat (0,[],0,0,0)=methAt l t.1.1 from rfl]
  generalize methAt l t.1.1=m
  unfold capOk
  by_cases h8:t.2.all (fitsF m t.1.2)=true
  ·have:t.2.filter (fitsF m t.1.2)=t.2:=by rw [List.filter_eq_self]; simpa using h8
   rw [this,h8]
   by_cases h7:m.2.2.1=0 <;> simp [h7]
  ·have:¬(t.2.filter (fitsF m t.1.2)).length=t.2.length:=by
    rw [List.length_filter_eq_length_iff]; simpa using h8
   rw [if_neg (by simp; omega)]
   rw [Bool.not_eq_true] at h8
   rw [h8]; rfl
theorem flat_filter {α:Type} (q:α→Bool):∀l:List α,l.flatMap (fun e=>if q e then [e] else [])=l.filter q
 | []=>rfl
 | a::l=>by
  rw [Qz,flat_filter q l,Qe]
  cases q a <;> rfl
theorem filter_flat_len {α:Type} (q:α→Bool) (l:List α) (i:Nat):((l.take i).flatMap (fun e=>if q e then [e] else [])).length≤l.length:=by
 rw [flat_filter]
 have:=qw q (l.take i)
 rw [qg] at this; omega
theorem l5Matches_S (m:Me) (v:List Int) (l:List Fa) (hl:SZ.sm l) (h:∀f∈l,Fit m v f):S.l5Matches m v l=some (l.filter (fitsF m v)):=by
 have hn:=hl.1
 unfold S.l5Matches
 rw [flat_loop (S.l5Matches_l1 l m v) l (fun e=>if fitsF m v e then [e] else []) (by omega) (fun k x=>by rw [S.l5Matches_l1,if_neg (by simp)]) (fun k x i hi hx=>by
  have e1:=l5Fits_S m v l[i] (h _ (qd hi))
  have hlen:=filter_flat_len (fitsF m v) l i
  rw [←hx] at hlen
  rw [S.l5Matches_l1,if_pos (by simpa using hi),idx_nat _ hi,show (m.1,m.2.1,m.2.2.1,m.2.2.2.1,m.2.2.2.2)=m from rfl,w64_succ (by omega)]
  simp only [qb,e1]
  cases fitsF m v l[i]
  ·simp
  ·simp only [if_true,l2One_eq _ _ (hl.2 _ (qd hi)).2.1,qb]
   rw [app_eq _ _ (by simp; omega)]
   rfl),flat_filter]
 rfl
theorem sm_filter {α:Type} [SZ α] {l:List α} (h:SZ.sm l) (q:α→Bool):SZ.sm (l.filter q) :=
 ⟨by have:=h.1; have:=qw q l; omega,fun e he=>h.2 e ((List.mem_filter.1 he).1)⟩

def lackF (m:Me) (u:To) (f:Fa):Bool:=fitsF m u.1.2 f&&(!hasF u.2 f&&(decide (m.2.2.1=0) || decide ((u.2.length:Int)<m.2.2.1)))
def lacks (l:List Me) (t u:To):Bool:=t.2.any (lackF (methAt l u.1.1) u)
def disF (s:List Int) (l:List Me) (t u:To):Bool:=selfOk s l t&&selfOk s l u&&(lacks l t u || lacks l u t)
theorem self_told {s:List Int} {l:List Me} {t:To} (h:selfOk s l t=true):accOk s l t.1=true∧factsOk s t.2=true:=by
 unfold selfOk at h
 rw [qi] at h
 exact told_of h.1
theorem lacks_S (s:List Int) (l:List Me) (t u:To) (ht:SZ.sm t) (hu:SZ.sm u) (h1:selfOk s l t=true) (h2:selfOk s l u=true):S.l28Lacks l t u=some (lacks l t u):=by
 obtain ⟨a1,a2⟩:=self_told h1
 obtain ⟨b1,b2⟩:=self_told h2
 obtain ⟨-,g2,-,-,-⟩:=acc_meth b1
 have h3:=facts_all a2
 have hn:=ht.2.1
 have h4:∀f∈t.2,Fit (methAt l u.1.1) u.1.2 f:=fun f hf=>fit_of b1 (h3 f hf) hu.1.2.1
 unfold S.l28Lacks lacks
 rw [idx_in (0,[],0,0,0) g2,qb,show l.getD u.1.1.toNat (0,[],0,0,0)=methAt l u.1.1 from rfl]
 generalize methAt l u.1.1=m at h4
 rw [any_loop (S.l28Lacks_l1 t m u) t.2 (lackF m u) true (by omega) (fun k=>by rw [S.l28Lacks_l1,if_neg (by simp)]) (fun k i hi=>by
  have e1:=l5Fits_S m u.1.2 t.2[i] (h4 _ (qd hi))
  have e2:=HasFact_S u.2 t.2[i] hu.2 (ht.2.2 _ (qd hi))
  rw [S.l28Lacks_l1,if_pos (by simpa using hi),idx_nat _ hi,show (m.1,m.2.1,m.2.2.1,m.2.2.2.1,m.2.2.2.2)=m from rfl,w64_succ (by omega)]
  simp only [qb,e1]
  unfold lackF
  cases fitsF m u.1.2 t.2[i]
  ·rfl
  ·simp only [if_true,qb,e2,Qs]
   cases hasF u.2 t.2[i]
   ·by_cases h7:m.2.2.1=0 <;> simp [h7]
   ·rfl)]
 cases t.2.any (lackF m u) <;> rfl
theorem denies_M (s:List Int) (l:List Me) (t u:To) (ht:SZ.sm t) (hu:SZ.sm u) (h1:selfOk s l t=true) (h2:selfOk s l u=true) (f:Fa) (hf:f∈t.2):M.Told_denies u l f=some (lackF (methAt l u.1.1) u f):=by
 obtain ⟨a1,a2⟩:=self_told h1
 obtain ⟨b1,b2⟩:=self_told h2
 obtain ⟨-,g2,-,-,-⟩:=acc_meth b1
 have h3:=facts_all a2
 have hfs:=ht.2.2 f hf
 have hm:=matches_M l [f] u.1 ⟨by simp,fun e he=>by rw [qn] at he; rw [he]; exact hfs⟩ g2 (fun e he=>by rw [qn] at he; subst he; exact fit_of b1 (h3 e hf) hu.1.2.1)
 unfold M.Told_denies
 have e2:=HasFact_M u.2 f hu.2 hfs
 rw [idx_in (0,[],0,0,0) g2,qb,show (f.1,f.2)=f from rfl,show (u.1.1,u.1.2)=u.1 from rfl,hm,e2]
 rw [show l.getD u.1.1.toNat (0,[],0,0,0)=methAt l u.1.1 from rfl]
 generalize methAt l u.1.1=m
 unfold lackF
 rw [Qe,List.filter_nil]
 cases fitsF m u.1.2 f
 ·rfl
 ·cases hasF u.2 f
  ·by_cases h7:m.2.2.1=0 <;> simp [h7]
  ·rfl
theorem Disagree_S (s:List Int) (l:List Me) (t u:To) (hs:SZ.sm s) (hl:SZ.sm l) (ht:SZ.sm t) (hu:SZ.sm u):S.Disagree s l t u=some (disF s l t u):=by
 unfold S.Disagree disF
 rw [show ((t.1.1,t.1.2),t.2)=t from rfl,show ((u.1.1,u.1.2),u.2)=u from rfl,FitsSelf_S s l t hs hl ht,FitsSelf_S s l u hs hl hu]
 cases h1:selfOk s l t
 ·rfl
 ·cases h2:selfOk s l u
  ·rfl
  ·rw [lacks_S s l t u ht hu h1 h2,lacks_S s l u t hu ht h2 h1]
   cases lacks l t u <;> rfl
theorem Disagree_M (s:List Int) (l:List Me) (t u:To) (hs:SZ.sm s) (hl:SZ.sm l) (ht:SZ.sm t) (hu:SZ.sm u):M.Disagree s l t u=some (disF s l t u):=by
 have n1:=ht.2.1
 have n2:=hu.2.1
 unfold M.Disagree disF
 rw [show ((t.1.1,t.1.2),t.2)=t from rfl,show ((u.1.1,u.1.2),u.2)=u from rfl,FitsSelf_M s l t hs hl ht,FitsSelf_M s l u hs hl hu]
 cases h1:selfOk s l t
 ·rfl
 ·cases h2:selfOk s l u
  ·rfl
  ·rw [Slices_ContainsFunc_Limpl_Fact_impl_Fact_M_Disagree_c1_eq t.2 u l (lackF (methAt l u.1.1) u) (by omega) (fun e he=>by
     have:=denies_M s l t u ht hu h1 h2 e he
     unfold M.Disagree_c1; rw [show (e.1,e.2)=e from rfl,this]; rfl),
    Slices_ContainsFunc_Limpl_Fact_impl_Fact_M_Disagree_c2_eq u.2 t l (lackF (methAt l t.1.1) t) (by omega) (fun e he=>by
     have:=denies_M s l u t hu ht h2 h1 e he
     unfold M.Disagree_c2; rw [show (e.1,e.2)=e from rfl,this]; rfl)]
   unfold lacks
   cases t.2.any (lackF (methAt l u.1.1) u) <;> rfl
theorem some_loop {β:Type} (f:Nat→Int→Option (Sum Unit β)) (n:Nat) (h:Nat→Option β) (hn:n≤4294967296) (he:∀k,f (k+1) (n:Int)=some (.inl ()))
  (hs:∀k (i:Nat),i<n→f (k+1) (i:Int)=(match h i with | some b=>some (.inr b) | none=>f k ((i+1:Nat):Int))) :
  f FUEL 0=some (match (List.range n).findSome? h with | some b=>.inr b | none=>.inl ()):=by
 have key:∀(K i:Nat),i≤n→n<i+K→f K (i:Int)=some (match ((List.range n).drop i).findSome? h with | some b=>.inr b | none=>.inl ()):=by
  intro K
  induction K with
  | zero=>intro i h1 h2; omega
  | succ K ih =>
   intro i h1 h2
   by_cases hi:i<n
   ·rw [hs K i hi,qe (by simpa using hi),List.findSome?_cons,List.getElem_range]
    cases h i with
    | some b=>rfl
    | none=>exact ih (i+1) (by omega) (by omega)
   ·obtain rfl:i=n:=by omega
    have e0:(List.range i).drop i=[]:=qt (by simp)
    rw [he,e0]; rfl
 have:=key FUEL 0 (by omega) (by rw [FUEL_eq]; omega)
 simpa using this
def conAt (s:List Int) (l:List Me) (a:List To) (i:Nat):Option (Int × Int × Bool) :=
 if h:i<a.length then (if selfOk s l a[i] then (if 0≤fidx (fun t=>disF s l t a[i]) (a.take i) 0 then some (fidx (fun t=>disF s l t a[i]) (a.take i) 0,(i:Int),true) else none) else some ((i:Int),(i:Int),true)) else none
def firstC (s:List Int) (l:List Me) (a:List To):Int × Int × Bool:=((List.range a.length).findSome? (conAt s l a)).getD (-1,-1,false)
theorem find_loop {α β:Type} (f:Nat→Int→Option (Sum Unit β)) (a:List α) (q:α→Bool) (g:Int→β) (hn:a.length≤4294967296) (he:∀k,f (k+1) (a.length:Int)=some (.inl ()))
  (hs:∀k (i:Nat) (hi:i<a.length),f (k+1) (i:Int)=if q a[i] then some (.inr (g (i:Int))) else f k ((i+1:Nat):Int)) :
  f FUEL 0=some (if 0≤fidx q a 0 then .inr (g (fidx q a 0)) else .inl ()):=by
 have key:∀(K i:Nat),i≤a.length→a.length<i+K→f K (i:Int)=some (if 0≤fidx q (a.drop i) i then .inr (g (fidx q (a.drop i) i)) else .inl ()):=by
  intro K
  induction K with
  | zero=>intro i h1 h2; omega
  | succ K ih =>
   intro i h1 h2
   by_cases hi:i<a.length
   ·rw [hs K i hi,qe hi]
    unfold fidx
    cases hq:q a[i]
    ·simp only [qc,if_false]
     exact ih (i+1) (by omega) (by omega)
    ·simp
   ·obtain rfl:i=a.length:=by omega
    rw [he]; simp [fidx]
 have:=key FUEL 0 (by omega) (by rw [FUEL_eq]; omega)
 simpa using this
theorem FirstConflict_S (s:List Int) (l:List Me) (a:List To) (hs:SZ.sm s) (hl:SZ.sm l) (ha:SZ.sm a):S.FirstConflict s l a=some (firstC s l a):=by
 have hn:=ha.1
 unfold S.FirstConflict firstC
 rw [some_loop (S.FirstConflict_l1 a s l) a.length (conAt s l a) (by omega) (fun k=>by rw [S.FirstConflict_l1,if_neg (by simp)]) (fun k i hi=>by
  have hm:a[i]∈a:=qd hi
  rw [S.FirstConflict_l1,if_pos (by simpa using hi),idx_nat _ hi,qb,FitsSelf_S s l _ hs hl (ha.2 _ hm),qb,w64_succ (by omega)]
  unfold conAt
  rw [dif_pos hi]
  cases selfOk s l a[i]
  ·rfl
  ·have hlen:(a.take i).length=i:=by rw [qg]; omega
   have hlo:=find_loop (S.FirstConflict_l2 (i:Int) a s l) (a.take i) (fun t=>disF s l t a[i]) (fun j=>(j,(i:Int),true)) (by omega) (fun k=>by rw [hlen,S.FirstConflict_l2,if_neg (by simp)]) (fun k j hj=>by
    rw [hlen] at hj
    have hjl:j<a.length:=by omega
    rw [S.FirstConflict_l2,if_pos (by simpa using hj),idx_nat _ hjl,qb,idx_nat _ hi,qb,Disagree_S s l _ _ hs hl (ha.2 _ (qd hjl)) (ha.2 _ hm),qb,w64_succ (by omega),List.getElem_take])
   rw [if_neg (by simp),hlo,qb]
   by_cases h9:0≤fidx (fun t=>disF s l t a[i]) (a.take i) 0
   ·simp [h9]
   ·simp [h9])]
 cases (List.range a.length).findSome? (conAt s l a) <;> rfl
theorem FirstConflict_M (s:List Int) (l:List Me) (a:List To) (hs:SZ.sm s) (hl:SZ.sm l) (ha:SZ.sm a):M.FirstConflict s l a=some (firstC s l a):=by
 have hn:=ha.1
 unfold M.FirstConflict firstC
 rw [some_loop (M.FirstConflict_l1 a s l) a.length (conAt s l a) (by omega) (fun k=>by rw [M.FirstConflict_l1,if_neg (by simp)]) (fun k i hi=>by
  have hm:a[i]∈a:=qd hi
  have hfs:=FitsSelf_M s l _ hs hl (ha.2 _ hm)
  rw [M.FirstConflict_l1,if_pos (by simpa using hi),idx_nat _ hi,qb,show ((a[i].1.1,a[i].1.2),a[i].2)=a[i] from rfl,hfs,qb,w64_succ (by omega)]
  unfold conAt
  rw [dif_pos hi]
  cases selfOk s l a[i]
  ·rfl
  ·have hlen:(a.take i).length=i:=by rw [qg]; omega
   have hsub:sub a 0 (i:Int)=some (a.take i):=by
    unfold sub
    rw [if_pos ⟨by omega,by omega,by omega⟩]
    simp
   rw [if_neg (by simp),hsub,qb,Slices_IndexFunc_Limpl_Told_impl_Told_M_FirstConflict_c1_eq (a.take i) s l a[i] (fun t=>disF s l t a[i]) (by omega) (fun e he=>by
    have:=Disagree_M s l e a[i] hs hl (ha.2 _ (qs he)) (ha.2 _ hm)
    unfold M.FirstConflict_c1; rw [show ((e.1.1,e.1.2),e.2)=e from rfl,this]; rfl),qb]
   by_cases h9:0≤fidx (fun t=>disF s l t a[i]) (a.take i) 0
   ·simp [h9]
   ·simp [h9])]
 cases (List.range a.length).findSome? (conAt s l a) <;> rfl
def consF (s:List Int) (l:List Me) (a:List To):Bool:=methsOk s l&&!(firstC s l a).2.2
def hasI (l:List Int) (x:Int):Bool:=l.any fun e=>decide (e=x)
theorem l2Has_eq (l:List Int) (x:Int) (h:l.length≤1048576):S.l2Has l x=some (hasI l x):=by
 unfold S.l2Has hasI
 rw [any_loop (S.l2Has_l1 l x) l (fun e=>decide (e=x)) true (by omega) (fun k=>by rw [S.l2Has_l1,if_neg (by simp)]) (fun k i hi=>by
  rw [S.l2Has_l1,if_pos (by simpa using hi),idx_nat l hi,qb,w64_succ (by omega)])]
 cases l.any (fun e=>decide (e=x)) <;> rfl

abbrev Tol:=(Int × List Int) × List Fa
theorem Contains_eq (l:List Int) (x:Int) (h:l.length≤1048576):Slices.Contains_Lint_int l x=some (hasI l x):=by
 unfold Slices.Contains_Lint_int Slices.Index_Lint_int hasI
 rw [index_loop (Slices.Index_Lint_int_l1 l x) l (fun e=>decide (e=x)) (by omega) (fun k=>by rw [Slices.Index_Lint_int_l1,if_neg (by simp)]) (fun k i hi=>by
  rw [Slices.Index_Lint_int_l1,if_pos (by simpa using hi),idx_nat l hi,qb,w64_succ (by omega)]
  have e:decide (x=l[i])=decide (l[i]=x):=by congr 1; exact propext ⟨Eq.symm,Eq.symm⟩
  rw [e])]
 rcases fidx_spec (fun e=>decide (e=x)) l 0 with ⟨h1,h2⟩ | ⟨j,hj,h1,h2,h3⟩
 ·rw [h2]; rfl
 ·have:l.any (fun e=>decide (e=x))=true:=List.any_eq_true.2 ⟨_,qd hj,h2⟩
  rw [this,h1]
  simp
theorem told_S (t:Tol) (h:SZ.sm t):S.l29Told t=some t:=by
 have h1:=h.1.2.1
 unfold S.l29Told S.l8Access
 rw [app_eq _ _ (by simp; omega)]
 simp only [qb,l2Copy_id _ h.2]
 rfl
theorem told_M (t:Tol) (h:SZ.sm t):M.copyTold t=some t:=by
 unfold M.copyTold M.copyAccess
 simp only [clone_eq _ h.1.2.1,qb,copyFacts_id _ h.2]
theorem any_sub {α:Type} (l:List α) (i:Nat) (hi:i<l.length) (d:α):l.getD i d=l[i]:=by simp [hi]
def keepT (l:List Tol) (drop:List Int) (i:Nat):List Tol:=if hasI drop (i:Int) then [] else [l.getD i ((0,[]),[])]
def woF (l:List Tol) (drop:List Int):List Tol:=(List.range l.length).flatMap (keepT l drop)
theorem keepT_le (l:List Tol) (drop:List Int) (i:Nat):(keepT l drop i).length≤1:=by unfold keepT; split <;> simp
theorem woF_sm (l:List Tol) (drop:List Int) (h:SZ.sm l):SZ.sm (woF l drop):=by
 refine ⟨qp (flatMap_len _ (keepT_le l drop) _) (by rw [Qy]; exact h.1),fun e he=>?_⟩
 obtain ⟨i,hi,hm⟩:=List.mem_flatMap.1 he
 rw [List.mem_range] at hi
 unfold keepT at hm
 split at hm
 ·cases hm
 ·rw [any_sub l i hi] at hm
  simp at hm; subst hm; exact h.2 _ (qd hi)
theorem wo_step (l:List Tol) (drop:List Int) (i:Nat) (hi:i<l.length):keepT l drop i=if hasI drop (i:Int) then [] else [l[i]]:=by unfold keepT; rw [any_sub l i hi]
theorem wo_len (l:List Tol) (drop:List Int) (i:Nat):((List.range i).flatMap (keepT l drop)).length≤i:=by
 have:=flatMap_len _ (keepT_le l drop) (List.range i); rwa [Qy] at this
theorem Without_S (l:List Tol) (drop:List Int) (hl:SZ.sm l) (hd:SZ.sm drop):S.Without l drop=some (woF l drop):=by
 have hn:=hl.1
 unfold S.Without woF
 rw [flat_loopN (S.Without_l1 l drop) l.length (keepT l drop) (by omega) (fun k x=>by rw [S.Without_l1,if_neg (by simp)]) (fun k x i hi hx=>by
  have hxl:x.length≤i:=by rw [hx]; exact wo_len l drop i
  rw [S.Without_l1,if_pos (by simpa using hi),l2Has_eq drop _ hd.1,qb,wo_step l drop i hi,w64_succ (by omega),idx_nat l hi]
  cases hasI drop (i:Int)
  ·simp only [qr,if_true,qb,told_S _ (hl.2 _ (qd hi)),qc,if_false]
   rw [app_eq _ _ (by simp; omega)]
   rfl
  ·simp)]
 rfl
theorem Without_M (l:List Tol) (drop:List Int) (hl:SZ.sm l) (hd:SZ.sm drop):M.Without l drop=some (woF l drop):=by
 have hn:=hl.1
 unfold M.Without woF
 rw [flat_loopN (M.Without_l1 l drop) l.length (keepT l drop) (by omega) (fun k x=>by rw [M.Without_l1,if_neg (by simp)]) (fun k x i hi hx=>by
  have hxl:x.length≤i:=by rw [hx]; exact wo_len l drop i
  rw [M.Without_l1,if_pos (by simpa using hi),idx_nat l hi,qb,Contains_eq drop _ hd.1,qb,wo_step l drop i hi,w64_succ (by omega)]
  cases hasI drop (i:Int)
  ·have ht:=told_M l[i] (hl.2 _ (qd hi))
   simp only [qr,if_true,qc,if_false]
   rw [show ((l[i].1.1,l[i].1.2),l[i].2)=l[i] from rfl,ht,qb,app_eq _ _ (by simp; omega)]
   rfl
  ·simp)]
 rfl
theorem cmpL_zero:∀(a b:List Int),cmpL a b=0→a=b
 | [],[],_=>rfl
 | [],_::_,h=>by simp [cmpL] at h
 | _::_,[],h=>by simp [cmpL] at h
 | x::a,y::b,h=>by
  unfold cmpL at h
  split at h
  ·omega
  ·split at h
   ·omega
   ·rw [cmpL_zero a b h,show x=y by omega]
theorem cmpL_refl:∀a:List Int,cmpL a a=0
 | []=>rfl
 | x::a=>by unfold cmpL; rw [if_neg (by omega),if_neg (by omega),cmpL_refl a]
theorem cmpF_zero {a b:Fa} (h:cmpF a b=0):a=b:=by
 unfold cmpF at h
 split at h
 ·omega
 ·split at h
  ·omega
  ·exact Prod.ext (by omega) (cmpL_zero _ _ h)
theorem cmpF_refl (a:Fa):cmpF a a=0:=by unfold cmpF; rw [if_neg (by omega),if_neg (by omega),cmpL_refl]
theorem hasF_iff {l:List Fa} {f:Fa}:hasF l f=true↔f∈l:=by
 unfold hasF
 rw [Qp]
 constructor
 ·rintro ⟨e,he,h⟩; rw [←cmpF_zero (of_decide_eq_true h)]; exact he
 ·intro h; exact ⟨f,h,decide_eq_true (cmpF_refl f)⟩
theorem mem_add {l:List Fa} {f e:Fa}:e∈addF l f↔e∈l∨e=f:=by
 constructor
 ·exact mem_addF
 ·intro h
  unfold addF
  split
  ·rename_i hh
   rcases h with h | rfl
   ·exact h
   ·exact hasF_iff.1 hh
  ·rcases h with h | rfl
   ·rw [←Qg (l.findIdx (gtF f)) l] at h
    rcases List.mem_append.1 h with h | h <;> simp [h]
   ·simp
theorem mem_addAll (l acc:List Fa):∀e,e∈addAll l acc↔e∈acc∨e∈l:=by
 unfold addAll
 induction l generalizing acc with
 | nil=>simp
 | cons a l ih =>
  intro e
  rw [List.foldl_cons,ih,mem_add,List.mem_cons,or_assoc]
theorem mem_unF (l:List To) (acc:List Fa):∀e,e∈unF l acc↔e∈acc∨∃t∈l,e∈t.2:=by
 unfold unF
 induction l generalizing acc with
 | nil=>simp
 | cons a l ih =>
  intro e
  rw [List.foldl_cons,ih,mem_addAll]
  simp only [List.mem_cons,exists_eq_or_imp,or_assoc]
theorem asc_addAll (l acc:List Fa) (h:Asc acc):Asc (addAll l acc):=by
 unfold addAll
 induction l generalizing acc with
 | nil=>exact h
 | cons a l ih=>exact ih _ (asc_add _ _ h)
theorem asc_unF (l:List To) (acc:List Fa) (h:Asc acc):Asc (unF l acc):=by
 unfold unF
 induction l generalizing acc with
 | nil=>exact h
 | cons a l ih=>exact ih _ (asc_addAll _ _ h)

def val:List Int→Nat
 | []=>0
 | x::t=>x.toNat*10 ^ t.length+val t
def code (f:Fa):Nat:=f.1.toNat*1000+val f.2
theorem asc_ext:∀(a b:List Fa),Asc a→Asc b→(∀e,e∈a↔e∈b)→a=b
 | [],[],_,_,_=>rfl
 | [],y::b,_,_,h=>by have:=(h y).2 (qu ..); cases this
 | x::a,[],_,_,h=>by have:=(h x).1 (qu ..); cases this
 | x::a,y::b,ha,hb,h=>by
  obtain ⟨a1,a2⟩:=List.pairwise_cons.1 ha
  obtain ⟨b1,b2⟩:=List.pairwise_cons.1 hb
  have irr:∀{u v:Fa},cmpF u v<0→cmpF v u<0→False:=fun {u v} h1 h2=>by have:=cmpF_anti u v; omega
  have e:x=y:=by
   rcases List.mem_cons.1 ((h x).1 (qu ..)) with e | e
   ·exact e
   ·rcases List.mem_cons.1 ((h y).2 (qu ..)) with e2 | e2
    ·exact e2.symm
    ·exact (irr (b1 x e) (a1 y e2)).elim
  subst e
  have nx:∀{l:List Fa},(∀z∈l,cmpF x z<0)→x ∉ l:=fun hl hm=>by have:=hl x hm; rw [cmpF_refl] at this; omega
  rw [asc_ext a b a2 b2 fun e=>⟨fun he=>?_,fun he=>?_⟩]
  ·rcases List.mem_cons.1 ((h e).1 (Qb _ he)) with h3 | h3
   ·subst h3; exact (nx a1 he).elim
   ·exact h3
  ·rcases List.mem_cons.1 ((h e).2 (Qb _ he)) with h3 | h3
   ·subst h3; exact (nx b1 he).elim
   ·exact h3
theorem con_all {s:List Int} {l:List Me} {a:List To} (h:(firstC s l a).2.2=false):∀i,i<a.length→conAt s l a i=none:=by
 unfold firstC at h
 cases hf:(List.range a.length).findSome? (conAt s l a) with
 | none=>intro i hi; exact (List.findSome?_eq_none_iff.1 hf) i (List.mem_range.2 hi)
 | some r =>
  obtain ⟨i,-,hi⟩:=List.exists_of_findSome?_eq_some hf
  rw [hf] at h
  unfold conAt at hi
  split at hi
  ·split at hi
   ·split at hi
    ·cases hi; cases h
    ·cases hi
   ·cases hi; cases h
  ·cases hi
theorem con_self {s:List Int} {l:List Me} {a:List To} (h:consF s l a=true):∀t∈a,selfOk s l t=true:=by
 unfold consF at h
 rw [qi,Bool.not_eq_true'] at h
 intro t ht
 obtain ⟨i,hi,rfl⟩:=qy ht
 have h1:=con_all h.2 i hi
 unfold conAt at h1
 rw [dif_pos hi] at h1
 by_cases h2:selfOk s l a[i]=true
 ·exact h2
 ·rw [if_neg h2] at h1; cases h1

theorem SameFacts_refl (l:List Fa) (hl:l.length≤4294967296) (hf:∀f∈l,f.2.length≤4294967296):S.SameFacts l l=some true:=by
 unfold S.SameFacts
 rw [if_neg (by simp),eq_loop (fun k i=>(S.SameFacts_l1 l l k i)) l.length hl (fun k=>by rw [S.SameFacts_l1,if_neg (by simp)]) (fun k i hi=>by
  have h:=hf _ (qd hi)
  rw [S.SameFacts_l1,if_pos (decide_eq_true (by omega)),idx_nat l hi,qb,qb,CompareFacts_S _ _ h h,cmpF_refl,qb,if_neg (by simp),w64_succ (by omega)])]
 rfl
theorem sameInts_refl (l:List Int) (hl:l.length≤4294967296):Q.sameInts l l=some true:=by
 unfold Q.sameInts
 rw [if_neg (by simp),eq_loop (fun k i=>Q.sameInts_l1 l l k i) l.length hl (fun k=>by rw [Q.sameInts_l1,if_neg (by simp)]) (fun k i hi=>by
  rw [Q.sameInts_l1,if_pos (decide_eq_true (by omega)),idx_nat l hi,qb,qb,if_neg (by simp),w64_succ (by omega)])]
 rfl

theorem l4_loop (a b:List Int):∀(m i k:Nat),a.length-i≤m→i≤a.length→i≤b.length→m<k→a.length≤4294967296 →
  ∃o,S.l4Less_l1 a b k (i:Int)=some o∧(o=.inl ()∧decide (cmpL (a.drop i) (b.drop i)<0)=decide ((a.length:Int)<(b.length:Int))∨o=.inr (decide (cmpL (a.drop i) (b.drop i)<0)))
 | m,i,0,_,_,_,hk,_=>by omega
 | m,i,k+1,hm,ha,hb,hk,hn=>by
  rw [S.l4Less_l1]
  by_cases c1:i<a.length
  ·by_cases c2:i<b.length
   ·rw [if_pos (by simpa using c1),qb,show decide ((i:Int)<(b.length:Int))=true from decide_eq_true (by omega),if_pos rfl,idx_nat a c1,idx_nat b c2]
    simp only [qb]
    rw [qe c1,qe c2]
    by_cases c3:a[i]=b[i]
    ·rw [if_neg (by simp [c3]),w64_succ (by omega)]
     obtain ⟨o,h1,h2⟩:=l4_loop a b (m-1) (i+1) k (by omega) (by omega) (by omega) (by omega) hn
     refine ⟨o,h1,?_⟩
     have e:cmpL (a[i]::a.drop (i+1)) (b[i]::b.drop (i+1))=cmpL (a.drop (i+1)) (b.drop (i+1)):=by
      rw [cmpL,if_neg (by omega),if_neg (by omega)]
     rw [e]
     exact h2
    ·rw [if_pos (by simpa using c3)]
     refine ⟨_,rfl,.inr ?_⟩
     congr 1
     rw [cmpL]
     by_cases c4:a[i]<b[i]
     ·rw [if_pos c4]; simp [c4]
     ·rw [if_neg c4,if_pos (by omega)]; simp [c4]
   ·rw [if_pos (by simpa using c1),qb,show decide ((i:Int)<(b.length:Int))=false from decide_eq_false (by omega),if_neg (by simp)]
    refine ⟨_,rfl,.inl ⟨rfl,?_⟩⟩
    rw [qe c1,qt (by omega:b.length≤i),cmpL]
    simp; omega
  ·rw [if_neg (by simpa using c1),qb,if_neg (by simp)]
   refine ⟨_,rfl,.inl ⟨rfl,?_⟩⟩
   rw [qt (by omega:a.length≤i)]
   by_cases c2:i<b.length
   ·rw [qe c2,cmpL]; simp; omega
   ·rw [qt (by omega:b.length≤i),cmpL]; simp; omega
theorem l4Less_S (a b:List Int) (ha:a.length≤4294967296):S.l4Less a b=some (decide (cmpL a b<0)):=by
 obtain ⟨o,h1,h2⟩:=l4_loop a b a.length 0 FUEL (by omega) (by omega) (by omega) (by rw [FUEL_eq]; omega) ha
 unfold S.l4Less
 have h1':S.l4Less_l1 a b FUEL 0=some o:=h1
 rw [h1']
 simp only [Qf] at h2
 rcases h2 with ⟨rfl,h2⟩ | rfl
 ·rw [h2]; rfl
 ·rfl
def lessT (x b:List Int):Bool:=decide (x.length<b.length) || (decide (x.length=b.length)&&decide (cmpL x b<0))
theorem l15Less_S (a b:List Int) (ha:a.length≤4294967296):S.l15Less a b=some (lessT a b):=by
 unfold S.l15Less lessT
 rw [l4Less_S a b ha]
 by_cases c:a.length=b.length
 ·rw [if_neg (by simp [c])]; simp [c]
 ·rw [if_pos (by simp; omega)]; simp [c]
theorem ints_loop {β:Type} (f:Nat→Int→Option (Sum Unit Bool)) (a b:List Int) (hl:a.length=b.length) (hn:a.length≤4294967296) (he:∀k,f (k+1) (a.length:Int)=some (.inl ()))
  (hs:∀k (i:Nat) (hi:i<a.length) (hj:i<b.length),f (k+1) (i:Int)=if a[i]=b[i] then f k ((i+1:Nat):Int) else some (.inr false)):f FUEL 0=some (if decide (a=b) then .inl () else .inr false):=by
 rw [all_loopN f a.length (fun i=>decide (nthI a i=nthI b i)) false hn he (fun k i hi=>by
  have e1:nthI a i=a[i]:=by unfold nthI; simp [hi]
  have e2:nthI b i=b[i]'(by omega):=by unfold nthI; simp [show i<b.length by omega]
  rw [hs k i hi (by omega),e1,e2]
  by_cases c:a[i]=b[i]'(by omega) <;> simp [c])]
 have:(List.range a.length).all (fun i=>decide (nthI a i=nthI b i))=decide (a=b):=by
  rw [Ql,qx,decide_eq_true_iff]
  constructor
  ·intro h
   refine List.ext_getElem hl fun i h1 h2=>?_
   have:=of_decide_eq_true (h i (List.mem_range.2 h1))
   unfold nthI at this
   simpa [h1,h2] using this
  ·rintro rfl i _; simp
 rw [this]
theorem l2Ints_S (a b:List Int) (hn:a.length≤4294967296):S.l2Ints a b=some (decide (a=b)):=by
 unfold S.l2Ints
 by_cases c:a.length=b.length
 ·rw [if_neg (by simp [c]),ints_loop (β:=Unit) (S.l2Ints_l1 a b) a b c hn (fun k=>by rw [S.l2Ints_l1,if_neg (by simp)]) (fun k i hi hj=>by
   rw [S.l2Ints_l1,if_pos (by simpa using hi),idx_nat a hi,idx_nat b hj,w64_succ (by omega)]
   by_cases c:a[i]=b[i] <;> simp [c])]
  by_cases h:a=b <;> simp [h]
 ·rw [if_pos (by simp; omega),decide_eq_false (fun h=>c (by rw [h]))]
theorem Equal_M (a b:List Int) (hn:a.length≤4294967296):Slices.Equal_Lint_int a b=some (decide (a=b)):=by
 unfold Slices.Equal_Lint_int
 by_cases c:a.length=b.length
 ·rw [if_neg (by simp [c]),ints_loop (β:=Unit) (Slices.Equal_Lint_int_l1 a b) a b c hn (fun k=>by rw [Slices.Equal_Lint_int_l1,if_neg (by simp)]) (fun k i hi hj=>by
   rw [Slices.Equal_Lint_int_l1,if_pos (by simpa using hi),idx_nat a hi,idx_nat b hj,w64_succ (by omega)]
   by_cases c:a[i]=b[i] <;> simp [c])]
  by_cases h:a=b <;> simp [h]
 ·rw [if_pos (by simp; omega),decide_eq_false (fun h=>c (by rw [h]))]
abbrev Tup:=List Int
def gtT (t e:Tup):Bool:=decide (0<cmpL e t)
def hasT (l:List Tup) (t:Tup):Bool:=l.any fun e=>decide (e=t)
def addT (l:List Tup) (t:Tup):List Tup:=if hasT l t then l else l.take (l.findIdx (gtT t))++[t]++l.drop (l.findIdx (gtT t))
def SmT (l:List Tup):Prop:=l.length≤1500000000∧∀e∈l,e.length≤1048576
theorem hasTuple_M (l:List Tup) (t:Tup) (hl:SmT l):M.hasTuple l t=some (hasT l t):=by
 have h1:=hl.1
 unfold M.hasTuple hasT
 rw [Slices_ContainsFunc_LLint_Lint_M_hasTuple_c1_eq l t (fun e=>decide (e=t)) (by omega) (fun e he=>by unfold M.hasTuple_c1; rw [Equal_M e t (by have:=hl.2 e he; omega)]; rfl)]
 rfl
theorem addedTuple_M (l:List Tup) (t:Tup) (hl:SmT l) (ht:t.length≤1048576):M.addedTuple l t=some (addT l t):=by
 have h1:=hl.1
 unfold M.addedTuple addT
 rw [hasTuple_M l t hl,qb]
 cases hasT l t
 ·simp only [qc,if_false]
  rw [Slices_IndexFunc_LLint_Lint_M_addedTuple_c1_eq l t (gtT t) (by omega) (fun e he=>by
   unfold M.addedTuple_c1; rw [Compare_L_eq e t (by have:=hl.2 e he; omega) (by omega)]; rfl),qb,fidx_find]
  have hle:=findIdx_le (gtT t) l
  have e1:(if decide ((if l.any (gtT t) then ((0+l.findIdx (gtT t):Nat):Int) else -1)<0)=true then some (List.length l:Int) else some (if l.any (gtT t) then ((0+l.findIdx (gtT t):Nat):Int) else -1))=some ((l.findIdx (gtT t):Nat):Int):=by
   cases hq:l.any (gtT t)
   ·rw [find_none _ _ hq]; simp
   ·simp only [if_true,Nat.zero_add]; rw [if_neg (by simp)]
  rw [e1,qb,clone_eq t ht,qb]
  unfold Slices.Insert_LLint_Lint ins
  rw [if_pos ⟨by omega,by omega,rfl,by rw [LIM_eq]; omega⟩]
  simp
 ·simp
theorem AddTuple_S (l:List Tup) (f:Tup) (hl:SmT l) (hf:f.length≤1048576):S.AddTuple l f=some (addT l f):=by
 have h1:=hl.1
 have hone:∀(i:Nat) (hi:i<l.length),app ([]:List Int) l[i]=some l[i]:=fun i hi=>by
  have:=hl.2 _ (qd hi)
  rw [app_eq _ _ (by simp; omega)]; rfl
 have honef:app ([]:List Int) f=some f:=by rw [app_eq _ _ (by simp; omega)]; rfl
 have hc:∀(i:Nat) (hi:i<l.length),S.l4Less f l[i]=some (decide (cmpL f l[i]<0)):=fun i hi=>l4Less_S f l[i] (by omega)
 have hq:∀e:Tup,decide (cmpL f e<0)=gtT f e:=fun e=>by unfold gtT; rw [cmpL_anti f e]; congr 1; exact propext ⟨fun h=>by omega,fun h=>by omega⟩
 have hfirst:S.AddTuple_l1 l f FUEL false 0=some (hasT l f):=by
  obtain ⟨k,s',g1,g2⟩:=loop_inv0 (fun k (x:Bool) i=>S.AddTuple_l1 l f k x i) (fun i x=>x=(l.take i).any fun e=>decide (e=f)) l.length (by omega) false (by simp) (fun k i x hi hx=>⟨x || decide (l[i]=f),by
   show S.AddTuple_l1 l f (k+1) x (i:Int)=S.AddTuple_l1 l f k _ ((i+1:Nat):Int)
   have e1:=l2Ints_S l[i] f (by have:=hl.2 _ (qd hi); omega)
   rw [S.AddTuple_l1,if_pos (by simpa using hi),idx_nat l hi,w64_succ (by omega)]
   cases x
   ·simp only [qc,if_false,qb,e1,Bool.false_or]
   ·simp,by
   rw [hx,qm,qh hi,List.any_append]; simp⟩)
  have g1':S.AddTuple_l1 l f FUEL false 0=S.AddTuple_l1 l f (k+1) s' (l.length:Int):=g1
  rw [g1',S.AddTuple_l1,if_neg (by simp),g2,ql]
  rfl
 unfold S.AddTuple
 rw [hfirst,qb]
 unfold addT
 cases hasT l f
 ·simp only [qc,if_false]
  generalize hp:l.findIdx (gtT f)=p
  have hple:p≤l.length:=by rw [←hp]; exact findIdx_le _ _
  obtain ⟨k,s,g1,rfl⟩:=loop_inv0 (fun k (s:List Tup × Bool) i=>S.AddTuple_l2 l f k s.1 s.2 i) (fun i s=>s=if p<i then (l.take p++[f]++(l.take i).drop p,true) else (l.take i,false)) l.length (by omega) (([]:List Tup),false) (by simp) (fun k i s hi hs=>by
   subst hs
   refine ⟨_,?_,rfl⟩
   have ht:l.take (i+1)=l.take i++[l[i]]:=by rw [qm,qh hi]; rfl
   by_cases c1:p<i
   ·have e1:(l.take p++[f]++(l.take i).drop p)++[l[i]]=l.take p++[f]++(l.take (i+1)).drop p:=by
     rw [ht,qz (by rw [qg]; omega),qv]
    simp only [c1,if_true,show p<i+1 by omega]
    rw [S.AddTuple_l2,if_pos (by simpa using hi),idx_nat l hi]
    simp only [qj,qc,if_false,qb,hone i hi]
    rw [app_eq _ _ (by simp only [qo,qg,Qo,qf,qk]; omega),qb,w64_succ (by omega),e1]
   ·have hgt:gtT f l[i]=decide (p=i):=by
     by_cases c2:p=i
     ·subst c2
      have:=Qm (xs:=l) (p:=gtT f) (w:=by rw [hp]; exact hi)
      simp only [hp] at this
      rw [this]; simp
     ·have h9:=Qj (xs:=l) (p:=gtT f) (i:=i) (by omega)
      simp only [c2,decide_false]
      simpa using h9
    simp only [c1,if_false]
    rw [S.AddTuple_l2,if_pos (by simpa using hi),idx_nat l hi]
    simp only [qr,if_true,qb,hc i hi,hq,hgt,hone i hi]
    by_cases c2:p=i
    ·subst c2
     simp only [decide_true,if_true,honef,qb,show p<p+1 by omega]
     rw [app_eq _ _ (by simp only [qg,qf,qk]; omega)]
     simp only [qb]
     rw [app_eq _ _ (by simp only [qo,qg,qf,qk]; omega),qb,w64_succ (by omega),ht,qz (by rw [qg]; omega)]
     simp
    ·simp only [c2,decide_false,qc,if_false,qb,show ¬p<i+1 by omega]
     rw [app_eq _ _ (by simp only [qg,qf,qk]; omega),qb,w64_succ (by omega),ht])
  rw [g1]
  by_cases c1:p<l.length
  ·simp only [c1,if_true]
   rw [S.AddTuple_l2,if_neg (by simp),qb]
   simp
  ·have:p=l.length:=by omega
   subst this
   simp only [Nat.lt_irrefl,if_false]
   rw [S.AddTuple_l2,if_neg (by simp),qb]
   simp only [qr,if_true,honef,qb]
   rw [app_eq _ _ (by simp only [qg,qf,qk]; omega)]
   simp
 ·simp only [if_true]
  obtain ⟨k,s,g1,rfl⟩:=loop_inv0 (fun k (s:List Tup × Bool) i=>S.AddTuple_l2 l f k s.1 s.2 i) (fun i s=>s=(l.take i,true)) l.length (by omega) (([]:List Tup),true) (by simp) (fun k i s hi hs=>by
   subst hs
   refine ⟨_,?_,rfl⟩
   show S.AddTuple_l2 l f (k+1) (l.take i) true i=S.AddTuple_l2 l f k (l.take (i+1)) true _
   rw [S.AddTuple_l2,if_pos (by simpa using hi),idx_nat l hi]
   simp only [qj,qc,if_false,qb,hone i hi]
   rw [app_eq _ _ (by simp only [qg,qf,qk]; omega),qb,w64_succ (by omega),qm,qh hi]
   rfl)
  rw [g1]
  simp only
  rw [S.AddTuple_l2,if_neg (by simp),qb]
  simp
abbrev AscT (l:List Tup):Prop:=l.Pairwise fun a b=>cmpL a b<0
theorem hasT_iff {l:List Tup} {t:Tup}:hasT l t=true↔t∈l:=by
 unfold hasT
 rw [Qp]
 exact ⟨fun ⟨e,he,h⟩=>by rw [←of_decide_eq_true h]; exact he,fun h=>⟨t,h,decide_eq_true rfl⟩⟩
theorem mem_addT {l:List Tup} {f e:Tup}:e∈addT l f↔e∈l∨e=f:=by
 unfold addT
 split
 ·rename_i hh
  constructor
  ·exact .inl
  ·rintro (h | rfl)
   ·exact h
   ·exact hasT_iff.1 hh
 ·conv=>rhs; rw [←Qg (l.findIdx (gtT f)) l]
  simp only [List.mem_append,qn]
  rw [or_assoc,or_assoc]
  constructor
  ·rintro (h | h | h)
   ·exact .inl h
   ·exact .inr (.inr h)
   ·exact .inr (.inl h)
  ·rintro (h | h | h)
   ·exact .inl h
   ·exact .inr (.inr h)
   ·exact .inr (.inl h)
theorem addT_len (l:List Tup) (f:Tup):(addT l f).length≤l.length+1:=by
 unfold addT
 split
 ·omega
 ·simp; omega
theorem asc_addT (l:List Tup) (f:Tup) (h:AscT l):AscT (addT l f):=by
 unfold addT
 split
 ·exact h
 ·rename_i hn
  generalize hp:l.findIdx (gtT f)=p
  have hsplit:AscT (l.take p++l.drop p):=by rw [Qg]; exact h
  obtain ⟨h1,h2,h3⟩:=List.pairwise_append.1 hsplit
  have hne:∀e∈l,cmpL e f≠0:=by
   intro e he h0
   apply hn
   rw [←cmpL_zero _ _ h0]
   exact hasT_iff.2 he
  have hb:∀e∈l.take p,cmpL e f<0:=by
   intro e he
   obtain ⟨i,hi,rfl⟩:=qy he
   rw [qg] at hi
   have h9:=Qj (xs:=l) (p:=gtT f) (i:=i) (by omega)
   have h8:=hne _ (qs he)
   rw [List.getElem_take] at h8 ⊢
   unfold gtT at h9
   simp at h9
   omega
  have ha:∀e∈l.drop p,cmpL f e<0:=by
   intro e he
   have hlt:p<l.length:=by
    by_cases h:p<l.length
    ·exact h
    ·rw [qt (by omega)] at he; cases he
   have hg:=Qm (xs:=l) (p:=gtT f) (w:=by rw [hp]; exact hlt)
   simp only [hp] at hg
   have hf:cmpL f l[p]<0:=by
    have:=cmpL_anti f l[p]
    unfold gtT at hg
    simp at hg
    omega
   rw [qe hlt] at he h2
   rcases List.mem_cons.1 he with rfl | he
   ·exact hf
   ·exact cmpL_trans _ _ _ hf ((List.pairwise_cons.1 h2).1 e he)
  rw [qv]
  refine List.pairwise_append.2 ⟨h1,?_,?_⟩
  ·exact List.pairwise_cons.2 ⟨ha,h2⟩
  ·intro a hal b hbm
   rcases List.mem_cons.1 hbm with rfl | hbm
   ·exact hb a hal
   ·exact h3 a hal b hbm

theorem nn_nat (n:Nat):nn (n:Int)=some ():=by unfold nn; rw [if_pos (by omega)]
def NN (n:Nat):Nat:=2 ^ n
theorem NN_le {n:Nat} (h:n≤8):NN n≤256:=qp (Nat.pow_le_pow_right (by omega) h) (by decide)
theorem shl_n (n:Nat) (h:n≤8):shl 1 (n:Int)=((NN n:Nat):Int):=by
 have:∀m:Fin 9,shl 1 ((m.val:Nat):Int)=((NN m.val:Nat):Int):=by decide +kernel
 exact this ⟨n,by omega⟩
def inB (mask:Int) (i:Nat):List Int:=if band (shr mask (i:Int)) 1=1 then [(i:Int)] else []
def setF (mask:Int) (n:Nat):List Int:=(List.range n).flatMap (inB mask)
theorem inB_le (mask:Int) (i:Nat):(inB mask i).length≤1:=by unfold inB; split <;> simp
theorem set_len (mask:Int) (n:Nat):(setF mask n).length≤n:=by have:=flatMap_len _ (inB_le mask) (List.range n); rwa [Qy] at this
theorem set_step {mask:Int} {i:Nat} {x:List Int} (h:i≤8) (hx:x=(List.range i).flatMap (inB mask)):(if decide (band (shr mask (i:Int)) 1=1)=true then (app x [(i:Int)]).bind fun y=>some y else some x)=some (x++inB mask i):=by
 have hxl:x.length≤i:=by rw [hx]; exact set_len mask i
 unfold inB
 by_cases c:band (shr mask (i:Int)) 1=1
 ·rw [if_pos (by simpa using c),if_pos c,app_eq _ _ (by simp; omega)]; rfl
 ·rw [if_neg (by simpa using c),if_neg c]; simp
theorem l15Set_S (mask:Int) (n:Nat) (h:n≤8):S.l15Set mask (n:Int)=some (setF mask n):=by
 unfold S.l15Set setF
 rw [flat_loopN (S.l15Set_l1 (n:Int) mask) n (inB mask) (by omega) (fun k x=>by rw [S.l15Set_l1,if_neg (by simp)]) (fun k x i hi hx=>by
  rw [S.l15Set_l1,if_pos (by simpa using hi),nn_nat,qb,w64_succ (by omega),set_step (by omega) hx]
  rfl)]
 rfl
theorem set_M {β:Type} (a:List β) (f:Nat→List Int→Int→Option (List Int)) (mask:Int) (h:a.length≤8) (he:∀k x,f (k+1) x (a.length:Int)=some x)
  (hs:∀k x (i:Nat),i<a.length→f (k+1) x (i:Int)=(if decide (band (shr mask (i:Int)) 1=1)=true then (app x [(i:Int)]).bind fun y=>some y else some x).bind fun y=>f k y ((i+1:Nat):Int)):f FUEL [] 0=some (setF mask a.length) :=
 flat_loopN f a.length (inB mask) (by omega) he (fun k x i hi hx=>by rw [hs k x i hi,set_step (by omega) hx]; rfl)
theorem set_M2 (n:Nat) (mask:Int) (h:n≤8):M.smallest_M_removals_c1_l2 (n:Int) mask FUEL [] false 0=some (setF mask n,false):=by
 obtain ⟨k,s',g1,g2⟩:=loop_inv0 (fun k (x:List Int × Bool) i=>M.smallest_M_removals_c1_l2 (n:Int) mask k x.1 x.2 i) (fun i x=>x=((List.range i).flatMap (inB mask),false)) n (by omega) ([],false) (by simp) (fun k i x hi hx=>⟨_,by
  show M.smallest_M_removals_c1_l2 (n:Int) mask (k+1) x.1 x.2 (i:Int)=M.smallest_M_removals_c1_l2 (n:Int) mask k (((List.range (i+1)).flatMap (inB mask),false):List Int × Bool).1 false ((i+1:Nat):Int)
  subst hx
  have hxl:((List.range i).flatMap (inB mask)).length≤i:=set_len mask i
  rw [M.smallest_M_removals_c1_l2,if_pos (by simpa using hi),nn_nat,qb,w64_succ (by omega),List.range_succ,Qr]
  simp only [Qz,List.flatMap_nil,Qd]
  unfold inB
  by_cases c:band (shr mask (i:Int)) 1=1
  ·rw [if_pos (by simpa using c),if_pos c]
   have:=app_eq ((List.range i).flatMap (inB mask)) [(i:Int)] (by have:[(i:Int)].length=1:=rfl; omega)
   unfold inB at this
   rw [this]; rfl
  ·rw [if_neg (by simpa using c),if_neg c]; simp,rfl⟩)
 have g1':M.smallest_M_removals_c1_l2 (n:Int) mask FUEL [] false 0=M.smallest_M_removals_c1_l2 (n:Int) mask (k+1) s'.1 s'.2 (n:Int):=g1
 rw [g1',M.smallest_M_removals_c1_l2,if_neg (by simp),g2]
 rfl
theorem Cons_S (s:List Int) (l:List Me) (a:List To) (hs:SZ.sm s) (hl:SZ.sm l) (ha:SZ.sm a):S.IsConsistent s l a=some (consF s l a):=by
 unfold S.IsConsistent consF
 rw [FirstConflict_S s l a hs hl ha,AreMethods_S s l hs hl]
 cases methsOk s l <;> rfl
theorem Cons_M (s:List Int) (l:List Me) (a:List To) (hs:SZ.sm s) (hl:SZ.sm l) (ha:SZ.sm a):M.IsConsistent s l a=some (consF s l a):=by
 unfold M.IsConsistent consF
 rw [FirstConflict_M s l a hs hl ha,AreMethods_M s l hs hl]
 cases methsOk s l <;> rfl
def conX (s:List Int) (l:List Me) (a:List To) (x:Tup):Bool:=consF s l (woF a x)
theorem con_M (s:List Int) (l:List Me) (a:List To) (hs:SZ.sm s) (hl:SZ.sm l) (ha:SZ.sm a) (x:Tup) (hx:x.length≤1048576):M.removals_c1 x s l a=some (conX s l a x):=by
 unfold M.removals_c1 conX
 rw [Without_M a x ha (sm_ints hx),qb,Cons_M s l _ hs hl (woF_sm a x ha)]
 rfl
def stepB (con:Tup→Bool) (o:Option Tup) (x:Tup):Option Tup :=
 match o with
 | none=>if con x then some x else none
 | some b=>if lessT x b&&con x then some x else some b
def setsF (n i:Nat):List Tup:=(List.range i).map fun m:Nat=>setF (m:Int) n
def bestAt (con:Tup→Bool) (n i:Nat):Option Tup:=(setsF n i).foldl (stepB con) none
theorem sets_succ (n i:Nat):setsF n (i+1)=setsF n i++[setF (i:Int) n]:=by unfold setsF; rw [List.range_succ,List.map_append]; rfl
theorem best_succ (con:Tup→Bool) (n i:Nat):bestAt con n (i+1)=stepB con (bestAt con n i) (setF (i:Int) n):=by
 unfold bestAt; rw [sets_succ,Qc]; rfl
theorem sets_mem {n i:Nat} {x:Tup} (h:x∈setsF n i):x.length≤n:=by
 unfold setsF at h
 obtain ⟨m,-,rfl⟩:=List.mem_map.1 h
 exact set_len _ n
theorem lessT_self (x:Tup):lessT x x=false:=by unfold lessT; rw [cmpL_refl]; simp
theorem lessT_trans {x y z:Tup} (h1:lessT x y=true) (h2:lessT y z=true):lessT x z=true:=by
 unfold lessT at *
 simp only [Bool.or_eq_true,qi,decide_eq_true_iff] at *
 rcases h1 with h1 | ⟨h1,h3⟩ <;> rcases h2 with h2 | ⟨h2,h4⟩
 ·left; omega
 ·left; omega
 ·left; omega
 ·exact .inr ⟨by omega,cmpL_trans _ _ _ h3 h4⟩
def Best (con:Tup→Bool) (l:List Tup) (o:Option Tup):Prop :=
 match o with
 | none=>∀x∈l,con x=false
 | some b=>b∈l∧con b=true∧∀x∈l,con x=true→lessT x b=false
theorem best_step (con:Tup→Bool) (l:List Tup) (o:Option Tup) (x:Tup) (h:Best con l o):Best con (l++[x]) (stepB con o x):=by
 cases o with
 | none =>
  have e:stepB con none x=if con x then some x else none:=rfl
  rw [e]
  cases hc:con x
  ·simp only [qc,if_false]
   intro y hy
   rcases List.mem_append.1 hy with hy | hy
   ·exact h y hy
   ·rw [List.mem_singleton.1 hy]; exact hc
  ·simp only [if_true]
   refine ⟨by simp,hc,fun y hy hcy=>?_⟩
   rcases List.mem_append.1 hy with hy | hy
   ·rw [h y hy] at hcy; cases hcy
   ·rw [List.mem_singleton.1 hy]; exact lessT_self x
 | some b =>
  obtain ⟨h1,h2,h3⟩:=h
  have e:stepB con (some b) x=if lessT x b&&con x then some x else some b:=rfl
  rw [e]
  cases hb:lessT x b&&con x
  ·simp only [qc,if_false]
   refine ⟨by simp [h1],h2,fun y hy hcy=>?_⟩
   rcases List.mem_append.1 hy with hy | hy
   ·exact h3 y hy hcy
   ·rw [List.mem_singleton.1 hy] at hcy ⊢
    rw [hcy,Bool.and_true] at hb
    exact hb
  ·simp only [if_true]
   rw [qi] at hb
   refine ⟨by simp,hb.2,fun y hy hcy=>?_⟩
   rcases List.mem_append.1 hy with hy | hy
   ·cases hyx:lessT y x
    ·rfl
    ·have:=lessT_trans hyx hb.1
     rw [h3 y hy hcy] at this; cases this
   ·rw [List.mem_singleton.1 hy]; exact lessT_self x
theorem best_spec (con:Tup→Bool) (n i:Nat):Best con (setsF n i) (bestAt con n i):=by
 induction i with
 | zero=>intro x hx; cases hx
 | succ i ih=>rw [best_succ,sets_succ]; exact best_step con _ _ _ ih
theorem best_len {con:Tup→Bool} {n i:Nat} {b:Tup} (h:bestAt con n i=some b):b.length≤n:=by
 have:=best_spec con n i
 rw [h] at this
 exact sets_mem this.1
def okR (s:List Int) (l:List Me) (a:List To):Bool:=methsOk s l&&decide (a.length≤8)
def bestR (s:List Int) (l:List Me) (a:List To):Option Tup:=bestAt (conX s l a) a.length (NN a.length)
theorem small_S (s:List Int) (l:List Me) (a:List To) (hs:SZ.sm s) (hl:SZ.sm l) (ha:SZ.sm a) (h8:a.length≤8):S.SmallestRemoval_l1 a s l FUEL [] false 0=some ((bestR s l a).getD [],(bestR s l a).isSome):=by
 have hN:=NN_le h8
 obtain ⟨k,s',g1,g2⟩:=loop_inv0 (fun k (x:Tup × Bool) i=>S.SmallestRemoval_l1 a s l k x.1 x.2 i) (fun i x=>x=((bestAt (conX s l a) a.length i).getD [],(bestAt (conX s l a) a.length i).isSome)) (NN a.length) (by omega) ([],false) rfl (fun k i x hi hx=>⟨_,by
  show S.SmallestRemoval_l1 a s l (k+1) x.1 x.2 (i:Int)=S.SmallestRemoval_l1 a s l k (((bestAt (conX s l a) a.length (i+1)).getD [],(bestAt (conX s l a) a.length (i+1)).isSome):Tup × Bool).1 (((bestAt (conX s l a) a.length (i+1)).getD [],(bestAt (conX s l a) a.length (i+1)).isSome):Tup × Bool).2 ((i+1:Nat):Int)
  subst hx
  have hsl:=set_len (i:Int) a.length
  rw [S.SmallestRemoval_l1,nn_nat,qb,shl_n _ h8,if_pos (decide_eq_true (Int.ofNat_lt.2 hi)),l15Set_S _ _ h8,qb,w64_succ (by omega),best_succ]
  have hw:=Without_S a (setF (i:Int) a.length) ha (sm_ints (by omega))
  have hc:=Cons_S s l (woF a (setF (i:Int) a.length)) hs hl (woF_sm a _ ha)
  rw [hw,l15Less_S _ _ (by omega)]
  cases hb:bestAt (conX s l a) a.length i with
  | none =>
   simp only [Option.getD_none,Option.isSome_none,qc,if_false,qb,hc,stepB]
   unfold conX
   cases consF s l (woF a (setF (i:Int) a.length)) <;> rfl
  | some b =>
   simp only [Qi,Qv,if_true,qb,hc,stepB]
   unfold conX
   cases lessT (setF (i:Int) a.length) b
   ·rfl
   ·cases consF s l (woF a (setF (i:Int) a.length)) <;> rfl,rfl⟩)
 have g1':S.SmallestRemoval_l1 a s l FUEL [] false 0=S.SmallestRemoval_l1 a s l (k+1) s'.1 s'.2 ((NN a.length:Nat):Int):=g1
 rw [g1',S.SmallestRemoval_l1,nn_nat,qb,shl_n _ h8,if_neg (by simp),g2]
 rfl
theorem small_M (s:List Int) (l:List Me) (a:List To) (hs:SZ.sm s) (hl:SZ.sm l) (ha:SZ.sm a) (h8:a.length≤8):M.smallest_M_removals_c1 (a.length:Int) s l a=some ((bestR s l a).getD [],(bestR s l a).isSome):=by
 have hN:=NN_le h8
 obtain ⟨k,s',g1,g2⟩:=loop_inv0 (fun k (x:Tup × Bool) i=>M.smallest_M_removals_c1_l1 (a.length:Int) s l a k x.1 x.2 i) (fun i x=>x=((bestAt (conX s l a) a.length i).getD [],!(bestAt (conX s l a) a.length i).isSome)) (NN a.length) (by omega) ([],true) rfl (fun k i x hi hx=>⟨_,by
  show M.smallest_M_removals_c1_l1 (a.length:Int) s l a (k+1) x.1 x.2 (i:Int)=M.smallest_M_removals_c1_l1 (a.length:Int) s l a k (((bestAt (conX s l a) a.length (i+1)).getD [],!(bestAt (conX s l a) a.length (i+1)).isSome):Tup × Bool).1 (((bestAt (conX s l a) a.length (i+1)).getD [],!(bestAt (conX s l a) a.length (i+1)).isSome):Tup × Bool).2 ((i+1:Nat):Int)
  subst hx
  have hsl:=set_len (i:Int) a.length
  rw [M.smallest_M_removals_c1_l1,shl_n _ h8,if_pos (decide_eq_true (Int.ofNat_lt.2 hi)),set_M2 _ _ h8,qb,w64_succ (by omega),best_succ]
  have hc:=con_M s l a hs hl ha (setF (i:Int) a.length) (by omega)
  cases hb:bestAt (conX s l a) a.length i with
  | none =>
   simp only [Option.getD_none,Option.isSome_none,qr,if_true,qb,hc,stepB]
   cases conX s l a (setF (i:Int) a.length) <;> rfl
  | some b =>
   have hbl:=best_len hb
   have hcmp:=Compare_L_eq (setF (i:Int) a.length) b (by omega) (by omega)
   simp only [Qi,Qv,qj,qc,if_false,qb,hc,hcmp,stepB]
   unfold lessT
   by_cases c1:(setF (i:Int) a.length).length<b.length
   ·rw [if_pos (decide_eq_true (Int.ofNat_lt.2 c1)),decide_eq_true c1]
    cases conX s l a (setF (i:Int) a.length) <;> rfl
   ·rw [if_neg (by simpa using c1),decide_eq_false c1]
    by_cases c2:(setF (i:Int) a.length).length=b.length
    ·rw [if_pos (by simp [c2]),decide_eq_true c2]
     by_cases c3:cmpL (setF (i:Int) a.length) b<0
     ·rw [if_pos (decide_eq_true c3),decide_eq_true c3]
      cases conX s l a (setF (i:Int) a.length) <;> rfl
     ·rw [if_neg (by simpa using c3),decide_eq_false c3]; rfl
    ·rw [if_neg (by simp; omega),decide_eq_false c2]; rfl,rfl⟩)
 have g1':M.smallest_M_removals_c1_l1 (a.length:Int) s l a FUEL [] true 0=M.smallest_M_removals_c1_l1 (a.length:Int) s l a (k+1) s'.1 s'.2 ((NN a.length:Nat):Int):=g1
 unfold M.smallest_M_removals_c1
 rw [nn_nat,qb,g1',M.smallest_M_removals_c1_l1,shl_n _ h8,if_neg (by simp),g2]
 unfold bestR
 cases bestAt (conX s l a) a.length (NN a.length) <;> rfl
def stepA (con:Tup→Bool) (m:Nat) (acc:List Tup) (x:Tup):List Tup:=if decide (x.length=m)&&con x then addT acc x else acc
def allAt (con:Tup→Bool) (m n i:Nat):List Tup:=(setsF n i).foldl (stepA con m) []
theorem all_succ (con:Tup→Bool) (m n i:Nat):allAt con m n (i+1)=stepA con m (allAt con m n i) (setF (i:Int) n):=by
 unfold allAt; rw [sets_succ,Qc]; rfl
theorem all_mem (con:Tup→Bool) (m n i:Nat):∀x,x∈allAt con m n i↔x∈setsF n i∧x.length=m∧con x=true:=by
 induction i with
 | zero=>intro x; simp [allAt,setsF]
 | succ i ih =>
  intro x
  rw [all_succ,sets_succ,List.mem_append,qn]
  unfold stepA
  cases hb:decide ((setF (i:Int) n).length=m)&&con (setF (i:Int) n)
  ·simp only [qc,if_false,ih]
   constructor
   ·rintro ⟨h1,h2⟩; exact ⟨.inl h1,h2⟩
   ·rintro ⟨h1 | rfl,h2,h3⟩
    ·exact ⟨h1,h2,h3⟩
    ·rw [h3,decide_eq_true h2] at hb; cases hb
  ·rw [if_pos rfl,mem_addT,ih]
   rw [qi,decide_eq_true_iff] at hb
   constructor
   ·rintro (⟨h1,h2⟩ | rfl)
    ·exact ⟨.inl h1,h2⟩
    ·exact ⟨.inr rfl,hb⟩
   ·rintro ⟨h1 | rfl,h2⟩
    ·exact .inl ⟨h1,h2⟩
    ·exact .inr rfl
theorem all_asc (con:Tup→Bool) (m n i:Nat):AscT (allAt con m n i):=by
 induction i with
 | zero=>exact List.Pairwise.nil
 | succ i ih=>rw [all_succ]; unfold stepA; split; exact asc_addT _ _ ih; exact ih
theorem all_len (con:Tup→Bool) (m n i:Nat):(allAt con m n i).length≤i:=by
 induction i with
 | zero=>exact Qx _
 | succ i ih=>rw [all_succ]; unfold stepA; split; exact qp (addT_len _ _) (by omega); omega
theorem all_sm {con:Tup→Bool} {m n i:Nat} (hn:n≤8) (hi:i≤256):SmT (allAt con m n i) :=
 ⟨by have:=all_len con m n i; omega,fun e he=>by have:=sets_mem ((all_mem con m n i e).1 he).1; omega⟩
theorem all_head {con:Tup→Bool} {n i:Nat} {b:Tup} (h:bestAt con n i=some b):∃t,allAt con b.length n i=b::t:=by
 have hs:=best_spec con n i
 rw [h] at hs
 obtain ⟨h1,h2,h3⟩:=hs
 have hm:=(all_mem con b.length n i b).2 ⟨h1,rfl,h2⟩
 have ha:=all_asc con b.length n i
 cases hl:allAt con b.length n i with
 | nil=>rw [hl] at hm; cases hm
 | cons x t =>
  rw [hl] at hm ha
  have hx:=(all_mem con b.length n i x).1 (by rw [hl]; exact qu ..)
  rcases List.mem_cons.1 hm with rfl | hm
  ·exact ⟨t,rfl⟩
  ·have hlt:=(List.pairwise_cons.1 ha).1 b hm
   have:=h3 x hx.1 hx.2.2
   unfold lessT at this
   rw [decide_eq_true hx.2.1,decide_eq_true hlt] at this
   simp at this
def allR (s:List Int) (l:List Me) (a:List To) (b:Tup):List Tup:=allAt (conX s l a) b.length a.length (NN a.length)
theorem remove_M (s:List Int) (l:List Me) (a:List To) (hs:SZ.sm s) (hl:SZ.sm l) (ha:SZ.sm a) (h8:a.length≤8) (b:Tup):M.removals_l1 a (b,true) s l FUEL [] 0=some (allR s l a b):=by
 have hN:=NN_le h8
 obtain ⟨k,s',g1,g2⟩:=loop_inv0 (fun k (x:List Tup) i=>M.removals_l1 a (b,true) s l k x i) (fun i x=>x=allAt (conX s l a) b.length a.length i) (NN a.length) (by omega) [] rfl (fun k i x hi hx=>⟨_,by
  have hsl:=set_len (i:Int) a.length
  have hc:=con_M s l a hs hl ha (setF (i:Int) a.length) (by omega)
  have hset:=set_M a (M.removals_l2 a (i:Int)) (i:Int) h8 (fun k x=>by rw [M.removals_l2,if_neg (by simp)]) (fun k x j hj=>by
   rw [M.removals_l2,if_pos (by simpa using hj),nn_nat,qb,w64_succ (by omega)])
  have hadd:=addedTuple_M x (setF (i:Int) a.length) (by rw [hx]; exact all_sm h8 (by omega)) (by omega)
  show M.removals_l1 a (b,true) s l (k+1) x (i:Int)=M.removals_l1 a (b,true) s l k (allAt (conX s l a) b.length a.length (i+1)) ((i+1:Nat):Int)
  rw [M.removals_l1,shl_n _ h8,if_pos (decide_eq_true (Int.ofNat_lt.2 hi)),hset,qb,w64_succ (by omega),all_succ,hc,hadd,←hx]
  unfold stepA
  by_cases c:(setF (i:Int) a.length).length=b.length
  ·rw [if_pos (by simp [c]),decide_eq_true c]
   cases conX s l a (setF (i:Int) a.length) <;> rfl
  ·rw [if_neg (by simp; omega),decide_eq_false c]; rfl,rfl⟩)
 rw [g1,M.removals_l1,shl_n _ h8,if_neg (by simp),g2]
 rfl
theorem allrem_S (s:List Int) (l:List Me) (a:List To) (hs:SZ.sm s) (hl:SZ.sm l) (ha:SZ.sm a) (h8:a.length≤8) (b:Tup):S.AllRemovals_l1 a (b,true) s l FUEL [] 0=some (allR s l a b):=by
 have hN:=NN_le h8
 obtain ⟨k,s',g1,g2⟩:=loop_inv0 (fun k (x:List Tup) i=>S.AllRemovals_l1 a (b,true) s l k x i) (fun i x=>x=allAt (conX s l a) b.length a.length i) (NN a.length) (by omega) [] rfl (fun k i x hi hx=>⟨_,by
  have hsl:=set_len (i:Int) a.length
  have hw:=Without_S a (setF (i:Int) a.length) ha (sm_ints (by omega))
  have hc:=Cons_S s l (woF a (setF (i:Int) a.length)) hs hl (woF_sm a _ ha)
  have hadd:=AddTuple_S x (setF (i:Int) a.length) (by rw [hx]; exact all_sm h8 (by omega)) (by omega)
  show S.AllRemovals_l1 a (b,true) s l (k+1) x (i:Int)=S.AllRemovals_l1 a (b,true) s l k (allAt (conX s l a) b.length a.length (i+1)) ((i+1:Nat):Int)
  rw [S.AllRemovals_l1,nn_nat,qb,shl_n _ h8,if_pos (decide_eq_true (Int.ofNat_lt.2 hi)),qb,if_pos rfl,l15Set_S _ _ h8,qb,w64_succ (by omega),all_succ,hw,qb,hc,hadd,←hx]
  unfold stepA conX
  by_cases c:(setF (i:Int) a.length).length=b.length
  ·rw [if_pos (by simp [c]),decide_eq_true c]
   cases consF s l (woF a (setF (i:Int) a.length)) <;> rfl
  ·rw [if_neg (by simp; omega),decide_eq_false c]; rfl,rfl⟩)
 rw [g1,S.AllRemovals_l1,nn_nat,qb,shl_n _ h8,if_neg (by simp),qb,if_neg (by simp),g2]
 rfl
theorem allrem_none (s:List Int) (l:List Me) (a:List To) (b:Tup):S.AllRemovals_l1 a (b,false) s l FUEL [] 0=some []:=by
 rw [fuel_succ,S.AllRemovals_l1,nn_nat,qb]
 by_cases c:decide ((0:Int)<shl 1 (a.length:Int))=true
 ·rw [if_pos c]; rfl
 ·rw [if_neg c]; rfl
def remR (s:List Int) (l:List Me) (a:List To):List Tup × Bool:=if okR s l a then (match bestR s l a with | none=>([],false) | some b=>(allR s l a b,true)) else ([],false)
theorem removals_M (s:List Int) (l:List Me) (a:List To) (hs:SZ.sm s) (hl:SZ.sm l) (ha:SZ.sm a):M.removals s l a=some (remR s l a):=by
 unfold M.removals remR okR
 rw [AreMethods_M s l hs hl]
 cases methsOk s l
 ·rfl
 ·by_cases h8:a.length≤8
  ·rw [decide_eq_true h8,small_M s l a hs hl ha h8]
   simp only [qb,qj,qc,if_false]
   rw [if_neg (by simp; omega)]
   cases hb:bestR s l a with
   | none=>rfl
   | some b =>
    simp only [Qi,Qv,qj,qc,if_false,nn_nat,qb,remove_M s l a hs hl ha h8 b]
    rfl
  ·rw [decide_eq_false h8]
   simp only [qb,qj,qc,if_false]
   rw [if_pos (by simp; omega)]
   rfl
theorem SmallestRemoval_S (s:List Int) (l:List Me) (a:List To) (hs:SZ.sm s) (hl:SZ.sm l) (ha:SZ.sm a):S.SmallestRemoval s l a=some (if okR s l a then ((bestR s l a).getD [],(bestR s l a).isSome) else ([],false)):=by
 unfold S.SmallestRemoval okR
 rw [AreMethods_S s l hs hl]
 cases methsOk s l
 ·rfl
 ·by_cases h8:a.length≤8
  ·rw [decide_eq_true h8,small_S s l a hs hl ha h8]
   simp only [qb,qj,qc,if_false]
   rw [if_neg (by simp; omega)]
   rfl
  ·rw [decide_eq_false h8]
   simp only [qb,qj,qc,if_false]
   rw [if_pos (by simp; omega)]
   rfl
theorem AllRemovals_S (s:List Int) (l:List Me) (a:List To) (hs:SZ.sm s) (hl:SZ.sm l) (ha:SZ.sm a):S.AllRemovals s l a=some (remR s l a).1:=by
 unfold S.AllRemovals remR
 rw [SmallestRemoval_S s l a hs hl ha,qb]
 cases hok:okR s l a
 ·simp only [qc,if_false]
  rw [allrem_none]; rfl
 ·have h8:a.length≤8:=by unfold okR at hok; rw [qi,decide_eq_true_iff] at hok; exact hok.2
  simp only [if_true]
  cases hb:bestR s l a with
  | none=>simp only [Option.getD_none,Option.isSome_none]; rw [allrem_none]; rfl
  | some b=>simp only [Qi,Qv]; rw [allrem_S s l a hs hl ha h8 b]; rfl
theorem remR_sm (s:List Int) (l:List Me) (a:List To):SmT (remR s l a).1:=by
 unfold remR
 cases hok:okR s l a
 ·exact ⟨by simp,by simp⟩
 ·have h8:a.length≤8:=by unfold okR at hok; rw [qi,decide_eq_true_iff] at hok; exact hok.2
  simp only [if_true]
  cases hb:bestR s l a with
  | none=>exact ⟨by simp,by simp⟩
  | some b=>exact all_sm h8 (NN_le h8)
theorem szs_app {α:Type} [SZ α]:∀(a b:List α),szs (a++b)=szs a+szs b
 | [],b=>by simp [szs]
 | x::a,b=>by simp only [List.cons_append,szs,szs_app a b]; omega
theorem wo_szs (a:List To) (d:List Int):∀i,i≤a.length→szs ((List.range i).flatMap (keepT a d))≤szs (a.take i)
 | 0,_=>by simp [szs]
 | i+1,h=>by
  have ih:=wo_szs a d i (by omega)
  have hi:i<a.length:=by omega
  rw [List.range_succ,Qr,szs_app,qm,qh hi,szs_app]
  have e:szs ([i].flatMap (keepT a d))≤szs (some a[i]).toList:=by
   simp only [Qz,List.flatMap_nil,Qd,Qw]
   rw [wo_step a d i hi]
   split
   ·simp [szs]
   ·exact Qx _
  omega
theorem wo_sz (a:List To) (d:List Int) (h:SZ.sz a≤1048576):SZ.sz (woF a d)≤1048576:=by
 have h1:=wo_szs a d a.length (Qx _)
 have h2:=wo_len a d a.length
 rw [ql] at h1
 have h3:a.length+szs a≤1048576:=h
 show (woF a d).length+szs (woF a d)≤1048576
 unfold woF
 omega
theorem mem_wo {a:List To} {d:List Int} {t:To} (h:t∈woF a d):t∈a:=by
 unfold woF at h
 obtain ⟨i,hi,hm⟩:=List.mem_flatMap.1 h
 rw [List.mem_range] at hi
 rw [wo_step a d i hi] at hm
 split at hm
 ·cases hm
 ·rw [List.mem_singleton.1 hm]; exact qd hi
def unW (a:List To) (r:Tup):List Fa:=unF (woF a r) []
theorem unW_sm (a:List To) (r:Tup) (z:SZ.sz a≤1048576):SZ.sm (unW a r):=by
 have h:=wo_sz a r z
 have h2:(woF a r).length+szs (woF a r)≤1048576:=h
 exact (unF_sm (woF a r) [] sm_nil (by simp; omega) (sm_of h).2).1
theorem unF_sm0 (a:List To) (z:SZ.sz a≤1048576):SZ.sm (unF a []):=by
 have h2:a.length+szs a≤1048576:=z
 exact (unF_sm a [] sm_nil (by simp; omega) (sm_of z).2).1
theorem unW_sub {a:List To} {r:Tup} {f:Fa} (h:f∈unW a r):f∈unF a []:=by
 rcases (mem_unF _ [] f).1 h with h | ⟨t,ht,hf⟩
 ·cases h
 ·exact (mem_unF a [] f).2 (.inr ⟨t,mem_wo ht,hf⟩)
theorem unW_filter (a:List To) (r:Tup):unW a r=(unF a []).filter (hasF (unW a r)) :=
 asc_ext _ _ (asc_unF _ _ List.Pairwise.nil) ((asc_unF a [] List.Pairwise.nil).filter _) fun e=>by
  rw [List.mem_filter,hasF_iff]
  exact ⟨fun h=>⟨unW_sub h,h⟩,fun h=>h.2⟩
theorem parted_c1_M (a:List To) (r:Tup) (f:Fa) (z:SZ.sz a≤1048576) (hr:r.length≤1048576) (hf:SZ.sm f):M.parted_c1 r a f=some (!hasF (unW a r) f):=by
 unfold M.parted_c1
 have h1:=Without_M a r (sm_of z) (sm_ints hr)
 have h2:=UnionOf_M (woF a r) (wo_sz a r z)
 have h3:=HasFact_M (unW a r) f (unW_sm a r z) hf
 rw [h1,qb,h2,qb]
 unfold unW at *
 rw [h3]
 rfl
def douF (a:List To) (all:List Tup) (f:Fa):Bool:=all.any fun r=>!hasF (unW a r) f
theorem part_loop (a:List To) (all:List Tup) (b:Bool) (z:SZ.sz a≤1048576) (hall:SmT all):M.parted_l1 (unF a []) (all,b) a FUEL [] [] 0=some ((unF a []).filter (fun f=>!douF a all f),(unF a []).filter (douF a all)):=by
 have hU:=unF_sm0 a z
 have hn:=hU.1
 have ha:=hall.1
 generalize unF a []=U at hU hn
 obtain ⟨k,s',g1,g2⟩:=loop_inv0 (fun k (x:List Fa × List Fa) i=>M.parted_l1 U (all,b) a k x.1 x.2 i) (fun i x=>x=((U.take i).filter (fun f=>!douF a all f),(U.take i).filter (douF a all))) U.length (by omega) ([],[]) (by simp) (fun k i x hi hx=>⟨_,by
  have hc:=Slices_ContainsFunc_LLint_Lint_M_parted_c1_eq all a U[i] (fun r=>!hasF (unW a r) U[i]) (by omega) (fun r hr=>parted_c1_M a r U[i] z (hall.2 r hr) (hU.2 _ (qd hi)))
  have l1:((U.take i).filter (fun f=>!douF a all f)).length≤i:=qp (qw _ _) (by rw [qg]; omega)
  have l2:((U.take i).filter (douF a all)).length≤i:=qp (qw _ _) (by rw [qg]; omega)
  show M.parted_l1 U (all,b) a (k+1) x.1 x.2 (i:Int)=M.parted_l1 U (all,b) a k (((U.take (i+1)).filter (fun f=>!douF a all f),(U.take (i+1)).filter (douF a all)):List Fa × List Fa).1 (((U.take (i+1)).filter (fun f=>!douF a all f),(U.take (i+1)).filter (douF a all)):List Fa × List Fa).2 ((i+1:Nat):Int)
  rw [M.parted_l1,if_pos (by simpa using hi),idx_nat U hi,qb,show (U[i].1,U[i].2)=U[i] from rfl,hc,qb,w64_succ (by omega),qm,qh hi,Qk,Qk]
  subst hx
  simp only [Qw,Qe,List.filter_nil]
  have e:douF a all U[i]=all.any fun r=>!hasF (unW a r) U[i]:=rfl
  rw [e]
  cases all.any fun r=>!hasF (unW a r) U[i]
  ·simp only [qc,if_false,qr,if_true,Qd]
   rw [app_eq _ _ (by simp only [qf,qk]; omega)]; rfl
  ·simp only [qc,if_false,qj,if_true,Qd]
   rw [app_eq _ _ (by simp only [qf,qk]; omega)]; rfl,rfl⟩)
 have g1':M.parted_l1 U (all,b) a FUEL [] [] 0=M.parted_l1 U (all,b) a (k+1) s'.1 s'.2 (U.length:Int):=g1
 rw [g1',M.parted_l1,if_neg (by simp),g2,ql]
def truR (s:List Int) (l:List Me) (a:List To):List Fa:=if (remR s l a).2 then (unF a []).filter (fun f=>!douF a (remR s l a).1 f) else []
def douR (s:List Int) (l:List Me) (a:List To):List Fa:=if (remR s l a).2 then (unF a []).filter (douF a (remR s l a).1) else []
theorem parted_M (s:List Int) (l:List Me) (a:List To) (hs:SZ.sm s) (hl:SZ.sm l) (z:SZ.sz a≤1048576):M.parted s l a=some (truR s l a,douR s l a,(remR s l a).2):=by
 unfold M.parted truR douR
 rw [removals_M s l a hs hl (sm_of z),qb]
 have hall:=remR_sm s l a
 cases hr:remR s l a with
 | mk all b =>
  rw [hr] at hall
  cases b
  ·rfl
  ·simp only [qj,qc,if_false,if_true,UnionOf_M a z,qb,part_loop a all true z hall]
theorem keep_loop (W out:List Fa) (hW:SZ.sm W) (ho:SZ.sm out):S.TrustedFacts_l2 out W FUEL [] 0=some (out.filter (hasF W)):=by
 have hn:=ho.1
 rw [flat_loop (S.TrustedFacts_l2 out W) out (fun e=>if hasF W e then [e] else []) (by omega) (fun k x=>by rw [S.TrustedFacts_l2,if_neg (by simp)]) (fun k x i hi hx=>by
  have e1:=HasFact_S W out[i] hW (ho.2 _ (qd hi))
  have hl:=filter_flat_len (hasF W) out i
  rw [←hx] at hl
  rw [S.TrustedFacts_l2,if_pos (by simpa using hi),idx_nat out hi,qb,show (out[i].1,out[i].2)=out[i] from rfl,e1,qb,w64_succ (by omega)]
  cases hasF W out[i]
  ·simp
  ·rw [if_pos rfl,app_eq _ _ (by simp; omega)]; rfl),flat_filter]
def allW (a:List To) (all:List Tup) (f:Fa):Bool:=all.all fun r=>hasF (unW a r) f
theorem trust_loop (a:List To) (all:List Tup) (z:SZ.sz a≤1048576) (hall:SmT all):S.TrustedFacts_l1 all a FUEL [] 0=some (if all=[] then [] else (unF a []).filter (allW a all)):=by
 have hU:=unF_sm0 a z
 have hn:=hall.1
 obtain ⟨k,s',g1,g2⟩:=loop_inv0 (fun k (x:List Fa) i=>S.TrustedFacts_l1 all a k x i) (fun i x=>x=if i=0 then [] else (unF a []).filter (allW a (all.take i))) all.length (by omega) [] (by simp) (fun k i x hi hx=>⟨(unF a []).filter (allW a (all.take (i+1))),by
  have hr:=hall.2 _ (qd hi)
  have hw:=Without_S a all[i] (sm_of z) (sm_ints hr)
  have hu:=UnionOf_S (woF a all[i]) (wo_sz a _ z)
  have hWm:=unW_sm a all[i] z
  show S.TrustedFacts_l1 all a (k+1) x (i:Int)=_
  rw [S.TrustedFacts_l1,if_pos (by simpa using hi),idx_nat all hi,qb,hw,qb,hu,qb,w64_succ (by omega)]
  by_cases c:i=0
  ·subst c
   rw [if_pos (by simp)]
   have e:(unF a []).filter (allW a (all.take 1))=unF (woF a all[0]) []:=by
    have e1:allW a (all.take 1)=hasF (unW a all[0]):=by
     funext f
     unfold allW
     rw [qm,qh hi]
     simp
    rw [e1]
    exact (unW_filter a all[0]).symm
   rw [e]
  ·rw [if_neg (by simp; omega)]
   have hx':x=(unF a []).filter (allW a (all.take i)):=by rw [hx,if_neg c]
   have hxm:SZ.sm x:=by rw [hx']; exact sm_filter hU _
   have hk:=keep_loop (unF (woF a all[i]) []) x hWm hxm
   rw [hk,qb]
   have e:x.filter (hasF (unF (woF a all[i]) []))=(unF a []).filter (allW a (all.take (i+1))):=by
    rw [hx',List.filter_filter]
    congr 1
    funext f
    unfold allW
    rw [qm,qh hi,List.all_append]
    simp only [Qw,List.all_cons,List.all_nil,Bool.and_true]
    rw [Bool.and_comm]
    rfl
   rw [e],by simp⟩)
 have g1':S.TrustedFacts_l1 all a FUEL [] 0=S.TrustedFacts_l1 all a (k+1) s' (all.length:Int):=g1
 rw [g1',S.TrustedFacts_l1,if_neg (by simp),g2,ql]
 cases all with
 | nil=>rfl
 | cons x t=>simp
theorem rem_ne {s:List Int} {l:List Me} {a:List To} (h:(remR s l a).2=true):(remR s l a).1≠[]:=by
 unfold remR at *
 cases hok:okR s l a
 ·rw [hok] at h; cases h
 ·rw [hok] at h
  simp only [if_true] at h ⊢
  cases hb:bestR s l a with
  | none=>rw [hb] at h; cases h
  | some b =>
   obtain ⟨t,ht⟩:=all_head (con:=conX s l a) hb
   simp only
   unfold allR
   rw [ht]
   simp
theorem rem_no {s:List Int} {l:List Me} {a:List To} (h:(remR s l a).2=false):(remR s l a).1=[]:=by
 unfold remR at *
 cases hok:okR s l a
 ·rfl
 ·rw [hok] at h
  simp only [if_true] at h ⊢
  cases hb:bestR s l a with
  | none=>rfl
  | some b=>rw [hb] at h; cases h
theorem TrustedFacts_S (s:List Int) (l:List Me) (a:List To) (hs:SZ.sm s) (hl:SZ.sm l) (z:SZ.sz a≤1048576):S.TrustedFacts s l a=some (truR s l a):=by
 unfold S.TrustedFacts truR
 rw [AllRemovals_S s l a hs hl (sm_of z),qb,trust_loop a _ z (remR_sm s l a),qb]
 cases hr:(remR s l a).2
 ·rw [rem_no hr]; rfl
 ·rw [if_neg (rem_ne hr)]
  simp only [if_true]
  congr 2
  funext f
  unfold douF allW
  rw [any_not,Bool.not_not]
theorem set_full (n:Nat) (h:n≤8):setF (((NN n-1:Nat)):Int) n=(List.range n).map fun i:Nat=>(i:Int):=by
 have:∀m:Fin 9,setF (((NN m.val-1:Nat)):Int) m.val=(List.range m.val).map fun i:Nat=>(i:Int):=by decide +kernel
 exact this ⟨n,by omega⟩
theorem rem_yes {s:List Int} {l:List Me} {a:List To} (h:okR s l a=true):(remR s l a).2=true:=by
 have hok:=h
 unfold okR at h
 rw [qi,decide_eq_true_iff] at h
 unfold remR
 rw [hok]
 simp only [if_true]
 cases hb:bestR s l a with
 | some b=>rfl
 | none =>
  exfalso
  have hs:=best_spec (conX s l a) a.length (NN a.length)
  unfold bestR at hb
  rw [hb] at hs
  have hpos:0<NN a.length:=Nat.pow_pos (by omega)
  have hx:setF (((NN a.length-1:Nat)):Int) a.length∈setsF a.length (NN a.length):=by
   unfold setsF
   exact List.mem_map.2 ⟨NN a.length-1,List.mem_range.2 (by omega),rfl⟩
  have h1:=hs _ hx
  rw [set_full _ h.2] at h1
  have h2:woF a ((List.range a.length).map fun i:Nat=>(i:Int))=[]:=by
   unfold woF
   rw [List.flatMap_eq_nil_iff]
   intro i hi
   unfold keepT
   rw [if_pos]
   unfold hasI
   exact List.any_eq_true.2 ⟨(i:Int),List.mem_map.2 ⟨i,hi,rfl⟩,decide_eq_true rfl⟩
  unfold conX consF at h1
  rw [h2,h.1] at h1
  cases h1
theorem tru_mem {s:List Int} {l:List Me} {a:List To} (h:(remR s l a).2=true) {f:Fa} (hf:f∈unF a []):hasF (truR s l a) f=!douF a (remR s l a).1 f:=by
 unfold truR
 rw [h,if_pos rfl,Ql,hasF_iff,List.mem_filter]
 exact ⟨fun h=>h.2,fun h=>⟨hf,h⟩⟩
theorem tru_sm (s:List Int) (l:List Me) (a:List To) (z:SZ.sz a≤1048576):SZ.sm (truR s l a):=by
 unfold truR
 split
 ·exact sm_filter (unF_sm0 a z) _
 ·exact sm_nil
theorem dou_sm (s:List Int) (l:List Me) (a:List To) (z:SZ.sz a≤1048576):SZ.sm (douR s l a):=by
 unfold douR
 split
 ·exact sm_filter (unF_sm0 a z) _
 ·exact sm_nil
theorem DoubtedFacts_S (s:List Int) (l:List Me) (a:List To) (hs:SZ.sm s) (hl:SZ.sm l) (z:SZ.sz a≤1048576):S.DoubtedFacts s l a=some (douR s l a):=by
 have hU:=unF_sm0 a z
 have hT:=tru_sm s l a z
 have hn:=hU.1
 unfold S.DoubtedFacts
 rw [TrustedFacts_S s l a hs hl z,qb,UnionOf_S a z,qb]
 cases hok:okR s l a
 ·have e:douR s l a=[]:=by unfold douR remR; rw [hok]; rfl
  rw [e,fuel_succ,S.DoubtedFacts_l1,AreMethods_S s l hs hl]
  unfold okR at hok
  by_cases c:decide ((0:Int)<((unF a []).length:Int))=true
  ·rw [if_pos c]
   cases hm:methsOk s l
   ·rfl
   ·rw [hm,Qs,decide_eq_false_iff_not] at hok
    simp only [qb,if_true]
    rw [decide_eq_false (by omega)]
    rfl
  ·rw [if_neg c]; rfl
 ·have hr:=rem_yes hok
  unfold okR at hok
  rw [qi,decide_eq_true_iff] at hok
  rw [flat_loop (S.DoubtedFacts_l1 (unF a []) s l a (truR s l a)) (unF a []) (fun e=>if !hasF (truR s l a) e then [e] else []) (by omega) (fun k x=>by rw [S.DoubtedFacts_l1,if_neg (by simp)]; rfl) (fun k x i hi hx=>by
   have e1:=HasFact_S (truR s l a) (unF a [])[i] hT (hU.2 _ (qd hi))
   have hlen:=filter_flat_len (fun e=>!hasF (truR s l a) e) (unF a []) i
   rw [←hx] at hlen
   rw [S.DoubtedFacts_l1,if_pos (by simpa using hi),AreMethods_S s l hs hl,hok.1]
   simp only [qb,if_true]
   rw [decide_eq_true (by omega:(a.length:Int)≤8),if_pos rfl,idx_nat _ hi,qb,show ((unF a [])[i].1,(unF a [])[i].2)=(unF a [])[i] from rfl,e1,qb,w64_succ (by omega)]
   cases hasF (truR s l a) (unF a [])[i]
   ·simp only [qr,if_true]
    rw [app_eq _ _ (by simp; omega)]; rfl
   ·simp),flat_filter,qb]
  congr 1
  unfold douR
  rw [hr,if_pos rfl]
  refine List.filter_congr fun f hf=>?_
  rw [tru_mem hr hf,Bool.not_not]
def ascI (l:List Int):Prop:=l.Pairwise (· < ·)
def insI:List Int→Int→List Int
 | [],x=>[x]
 | y::l,x=>if x<y then x::y::l else y::insI l x
theorem mem_insI {z x:Int}:∀{l:List Int},z∈insI l x↔z=x∨z∈l
 | []=>by simp [insI]
 | y::l=>by
  unfold insI
  split
  ·simp
  ·rw [List.mem_cons,mem_insI,List.mem_cons]
   constructor
   ·rintro (h | h | h) <;> simp [h]
   ·rintro (h | h | h) <;> simp [h]
theorem asc_insI {x:Int}:∀{l:List Int},ascI l→x ∉ l→ascI (insI l x)
 | [],_,_=>by simp [insI,ascI]
 | y::l,h,hx=>by
  have h':=List.pairwise_cons.1 h
  unfold insI
  split
  ·rename_i hlt
   refine List.pairwise_cons.2 ⟨fun z hz=>?_,h⟩
   rcases List.mem_cons.1 hz with rfl | hz
   ·exact hlt
   ·have:=h'.1 z hz; omega
  ·rename_i hlt
   refine List.pairwise_cons.2 ⟨fun z hz=>?_,asc_insI h'.2 fun hm=>hx (by simp [hm])⟩
   rcases mem_insI.1 hz with rfl | hz
   ·have:z≠y:=fun e=>hx (by simp [e])
    omega
   ·exact h'.1 z hz
theorem insI_len (x:Int):∀l:List Int,(insI l x).length=l.length+1
 | []=>rfl
 | y::l=>by unfold insI; split <;> simp [insI_len x l]
def putI (l:List Int) (x:Int):List Int:=if x∈l then l else insI l x
theorem mem_putI {z x:Int} {l:List Int}:z∈putI l x↔z=x∨z∈l:=by
 unfold putI
 split
 ·rename_i h
  constructor
  ·exact .inr
  ·rintro (rfl | h2)
   ·exact h
   ·exact h2
 ·exact mem_insI
theorem asc_putI {x:Int} {l:List Int} (h:ascI l):ascI (putI l x):=by
 unfold putI
 split
 ·exact h
 ·exact asc_insI h ‹_›
theorem putI_len (l:List Int) (x:Int):(putI l x).length≤l.length+1:=by
 unfold putI
 split
 ·omega
 ·rw [insI_len]; exact Qx _
theorem mem_fold {z:Int}:∀{xs acc:List Int},z∈xs.foldl putI acc↔z∈acc∨z∈xs
 | [],acc=>by simp
 | x::xs,acc=>by
  rw [List.foldl_cons,mem_fold,mem_putI,List.mem_cons]
  constructor
  ·rintro ((h | h) | h) <;> simp [h]
  ·rintro (h | h | h) <;> simp [h]
theorem asc_fold:∀{xs acc:List Int},ascI acc→ascI (xs.foldl putI acc)
 | [],_,h=>h
 | x::xs,acc,h=>by rw [List.foldl_cons]; exact asc_fold (asc_putI h)
def sortL (l:List Int):List Int:=l.mergeSort fun x y=>decide (x≤y)
theorem sortL_asc (l:List Int):(sortL l).Pairwise (·≤·):=by
 have h:=List.pairwise_mergeSort (le:=fun x y:Int=>decide (x≤y)) (fun a b c h1 h2=>by simp at *; omega) (fun a b=>by simp; omega) l
 exact h.imp fun h=>by simpa using h
theorem mem_sortL {z:Int} {l:List Int}:z∈sortL l↔z∈l:=List.mem_mergeSort
theorem cu_spec (d:Array Int) (hd:∀i j,i≤j→j<d.size→d[i]! ≤ d[j]!):∀m,m≤d.size→ascI (Lib.compactUpTo d m)∧(∀x,x∈Lib.compactUpTo d m↔∃j,j<m∧d[j]! = x):=by
 intro m
 induction m with
 | zero =>
  intro _
  have e:Lib.compactUpTo d 0=[]:=rfl
  rw [e]
  exact ⟨List.Pairwise.nil,fun x=>by simp⟩
 | succ m ih =>
  intro hm
  obtain ⟨h1,h2⟩:=ih (by omega)
  rw [Lib.compactUpTo_succ]
  by_cases hk:Lib.keeps d m=true
  ·rw [if_pos hk]
   refine ⟨List.pairwise_append.2 ⟨h1,by simp,fun x hx y hy=>?_⟩,fun x=>?_⟩
   ·obtain ⟨j,hj,rfl⟩:=(h2 x).1 hx
    rw [qn] at hy
    subst hy
    have a1:=hd j (m-1) (by omega) (by omega)
    have a2:=hd (m-1) m (by omega) (by omega)
    have a3:d[m]! ≠ d[m-1]! := by
     intro e
     have:=Lib.keeps_neg (by omega) e
     rw [this] at hk; cases hk
    omega
   ·rw [List.mem_append,h2,qn]
    constructor
    ·rintro (⟨j,hj,e⟩ | e)
     ·exact ⟨j,by omega,e⟩
     ·exact ⟨m,by omega,e.symm⟩
    ·rintro ⟨j,hj,e⟩
     by_cases hjm:j=m
     ·subst hjm; exact .inr e.symm
     ·exact .inl ⟨j,by omega,e⟩
  ·rw [if_neg hk,Qd]
   refine ⟨h1,fun x=>?_⟩
   rw [h2]
   have a0:0<m:=by
    rcases Nat.eq_zero_or_pos m with rfl | h
    ·exact absurd (Lib.keeps_lt_one d 0 (by omega)) hk
    ·exact h
   have a1:d[m]! = d[m-1]! := Classical.byContradiction fun h=>hk (Lib.keeps_pos h)
   constructor
   ·rintro ⟨j,hj,e⟩; exact ⟨j,by omega,e⟩
   ·rintro ⟨j,hj,e⟩
    by_cases hjm:j=m
    ·subst hjm; exact ⟨j-1,by omega,by rw [←a1]; exact e⟩
    ·exact ⟨j,by omega,e⟩
theorem compact_sort (l:List Int):ascI (Lib.compact (sortL l))∧∀x,x∈Lib.compact (sortL l)↔x∈l:=by
 have hs:=sortL_asc l
 have hd:∀i j,i≤j→j<(sortL l).toArray.size→(sortL l).toArray[i]! ≤ (sortL l).toArray[j]! := by
  intro i j hij hj
  have hj':j<(sortL l).length:=by simpa using hj
  rw [getElem!_pos _ i (by simp; omega),getElem!_pos _ j (by simp; omega)]
  rcases Nat.lt_or_ge i j with h | h
  ·exact List.pairwise_iff_getElem.1 hs i j (by omega) hj' h
  ·obtain rfl:i=j:=by omega
   exact Int.le_refl _
 obtain ⟨h1,h2⟩:=cu_spec (sortL l).toArray hd (sortL l).length (by simp)
 refine ⟨h1,fun x=>?_⟩
 rw [←mem_sortL (l:=l)]
 refine (h2 x).trans ⟨?_,fun hx=>?_⟩
 ·rintro ⟨j,hj,rfl⟩
  rw [getElem!_pos _ j (by simpa using hj)]
  simp
 ·obtain ⟨j,hj,rfl⟩:=qy hx
  exact ⟨j,hj,by rw [getElem!_pos _ j (by simpa using hj)]; simp⟩
abbrev Qu:=List Int × List (Int × List Int)
theorem has_S (l:List Int) (x:Int) (h:l.length≤4294967296):S.l2Has l x=some (decide (x∈l)):=by
 unfold S.l2Has
 rw [any_loop (S.l2Has_l1 l x) l (fun y=>decide (y=x)) true h (fun k=>by rw [S.l2Has_l1,if_neg (by simp)]) (fun k i hi=>by
  rw [S.l2Has_l1,if_pos (decide_eq_true (by omega)),idx_nat l hi,qb,w64_succ (by omega)])]
 have e:(l.any fun y=>decide (y=x))=decide (x∈l):=by
  rw [Ql,Qp,decide_eq_true_iff]
  constructor
  ·rintro ⟨y,hy,h⟩
   rw [decide_eq_true_iff] at h
   exact h ▸ hy
  ·intro h
   exact ⟨x,h,decide_eq_true rfl⟩
 rw [e]
 cases decide (x∈l) <;> rfl
theorem put_loopT (l:List Int) (x:Int) (hl:l.length≤4294967296):∀(n K i:Nat) (out:List Int),i+n=l.length→n<K→out.length+n≤4294967000→S.l3Put_l1 l x K out true (i:Int)=some (out++l.drop i,true):=by
 intro n
 induction n with
 | zero =>
  intro K i out h1 hK ho
  obtain ⟨K,rfl⟩:∃k,K=k+1:=⟨K-1,by omega⟩
  rw [S.l3Put_l1,if_neg (by simp; omega),List.drop_of_length_le (by omega),Qd]
 | succ n ih =>
  intro K i out h1 hK ho
  obtain ⟨K,rfl⟩:∃k,K=k+1:=⟨K-1,by omega⟩
  have hi:i<l.length:=by omega
  rw [S.l3Put_l1,if_pos (decide_eq_true (by omega))]
  simp only [qj,qc,if_false,qb]
  rw [idx_nat l hi,qb,app_eq _ _ (by simp; omega),qb,w64_succ (by omega),ih K (i+1) _ (by omega) (by omega) (by simp; omega),qe hi,qv]
  rfl
theorem put_loopF (l:List Int) (x:Int) (hl:l.length≤4294967296):∀(n K i:Nat) (out:List Int),i+n=l.length→n<K→out.length+n≤4294960000 →
  S.l3Put_l1 l x K out false (i:Int)=some (if (l.drop i).any (fun y=>decide (x<y)) then (out++insI (l.drop i) x,true) else (out++l.drop i,false)):=by
 intro n
 induction n with
 | zero =>
  intro K i out h1 hK ho
  obtain ⟨K,rfl⟩:∃k,K=k+1:=⟨K-1,by omega⟩
  rw [S.l3Put_l1,if_neg (by simp; omega),List.drop_of_length_le (by omega)]
  simp
 | succ n ih =>
  intro K i out h1 hK ho
  obtain ⟨K,rfl⟩:∃k,K=k+1:=⟨K-1,by omega⟩
  have hi:i<l.length:=by omega
  rw [S.l3Put_l1,if_pos (decide_eq_true (by omega))]
  simp only [qr,if_true]
  rw [idx_nat l hi,qb,qb,qe hi,List.any_cons]
  by_cases hx:x<l[i]
  ·rw [decide_eq_true hx,if_pos rfl,app_eq _ _ (by simp; omega),qb,qb]
   simp only [qb]
   rw [app_eq _ _ (by simp; omega),qb,w64_succ (by omega),put_loopT l x hl n K (i+1) _ (by omega) (by omega) (by simp; omega)]
   simp only [Bool.true_or,if_true]
   have e:insI (l[i]::l.drop (i+1)) x=x::l[i]::l.drop (i+1):=by rw [insI,if_pos hx]
   rw [e,qv,qv]; rfl
  ·rw [decide_eq_false hx,if_neg (by simp),qb]
   simp only [qb]
   rw [app_eq _ _ (by simp; omega),qb,w64_succ (by omega),ih K (i+1) _ (by omega) (by omega) (by simp; omega)]
   have e:insI (l[i]::l.drop (i+1)) x=l[i]::insI (l.drop (i+1)) x:=by rw [insI,if_neg hx]
   rw [e,Bool.false_or]
   cases (l.drop (i+1)).any fun y=>decide (x<y)
   ·simp
   ·simp
theorem insI_end {x:Int}:∀{l:List Int},(l.any fun y=>decide (x<y))=false→insI l x=l++[x]
 | [],_=>rfl
 | y::l,h=>by
  rw [List.any_cons,Bool.or_eq_false_iff] at h
  rw [insI,if_neg (of_decide_eq_false h.1),insI_end h.2]; rfl
theorem put_S (l:List Int) (x:Int) (h:l.length≤4000000000):S.l3Put l x=some (putI l x):=by
 unfold S.l3Put putI
 rw [has_S l x (by omega),qb]
 by_cases hx:x∈l
 ·rw [if_pos (by simpa using hx),if_pos hx]
 ·have h1:=put_loopF l x (by omega) l.length FUEL 0 [] (by omega) (by rw [FUEL_eq]; omega) (by simp; omega)
  rw [Qf] at h1
  have h1':S.l3Put_l1 l x FUEL [] false 0=_:=h1
  rw [if_neg (by simpa using hx),if_neg hx,h1']
  cases ha:l.any fun y=>decide (x<y)
  ·rw [insI_end ha]
   simp only [qc,if_false,qb,List.nil_append,qr,if_true]
   rw [app_eq _ _ (by simp; omega)]; rfl
  ·rfl
theorem ascI_len:∀(l:List Int) (a b:Int),ascI l→(∀x∈l,a≤x∧x≤b)→a≤b+1→(l.length:Int)≤b-a+1
 | [],a,b,_,_,h=>by simp; omega
 | x::l,a,b,h,hx,hab=>by
  have h':=List.pairwise_cons.1 h
  have h1:=hx x (by simp)
  have:=ascI_len l (x+1) b h'.2 (fun y hy=>by have:=h'.1 y hy; have:=hx y (by simp [hy]); omega) (by omega)
  rw [qf]; omega
abbrev At:=Int × List Int
def varB (x:Int):Bool:=inR x 10 17
theorem var_S (x:Int):S.IsVar x=some (varB x):=by unfold S.IsVar; rw [inS]; rfl
theorem var_M (x:Int):M.IsVar x=some (varB x):=by unfold M.IsVar; rw [inM]; rfl
def termB (x:Int):Bool:=inR x 0 9 || varB x
theorem term_S (x:Int):S.IsTerm x=some (termB x):=by
 unfold S.IsTerm termB
 rw [inS]
 cases inR x 0 9
 ·simp [var_S]
 ·rfl
theorem term_M (x:Int):M.IsTerm x=some (termB x):=by
 unfold M.IsTerm M.isValue termB
 rw [inM]
 cases inR x 0 9
 ·simp [var_M]
 ·rfl
def atomOk (s:List Int) (a:At):Bool:=relOk s a.1&&(decide ((a.2.length:Int)=arity s a.1)&&a.2.all termB)
theorem atom_S (s:List Int) (a:At) (hs:s.length≤1048576) (ha:a.2.length≤1048576):S.IsAtom s a=some (atomOk s a):=by
 unfold S.IsAtom atomOk
 rw [IsSchema_S s (by omega),qb,inS]
 cases h1:schOk s
 ·simp [relOk,h1]
 ·have hl:=sch_len h1
  rw [w64_sm (by omega) (by omega)]
  have hr:relOk s a.1=inR a.1 0 ((s.length:Int)-1):=by unfold relOk; rw [h1]; rfl
  rw [hr]
  cases h2:inR a.1 0 ((s.length:Int)-1)
  ·rfl
  ·have h3:relOk s a.1=true:=by rw [hr,h2]
   simp only [qj,qc,if_false,qb]
   rw [idx_arity h3]
   by_cases h4:(a.2.length:Int)=arity s a.1
   ·simp only [qb]
    rw [decide_eq_true h4]
    simp only [qj,qc,if_false]
    rw [all_loop (S.IsAtom_l1 a) a.2 termB false (by omega) (fun k=>by rw [S.IsAtom_l1,if_neg (by simp)]) (fun k i hi=>by
     rw [S.IsAtom_l1,if_pos (decide_eq_true (by omega)),idx_nat _ hi,qb,term_S,qb,w64_succ (by omega)]
     cases termB a.2[i] <;> rfl)]
    cases a.2.all termB <;> rfl
   ·simp only [qb]
    rw [decide_eq_false h4]
    rfl
theorem atom_M (s:List Int) (a:At) (hs:s.length≤1048576) (ha:a.2.length≤1048576):M.IsAtom s a=some (atomOk s a):=by
 unfold M.IsAtom atomOk M.areTerms
 rw [hasRel_M s a.1 (by omega),qb]
 cases h2:relOk s a.1
 ·rfl
 ·simp only [if_true]
  rw [idx_arity h2,qb,Slices_ContainsFunc_Lint_int_M_areTerms_c1_eq a.2 (fun n=>!termB n) (by omega) (fun e he=>by unfold M.areTerms_c1; rw [term_M]; rfl),any_not]
  by_cases h4:(a.2.length:Int)=arity s a.1
  ·rw [decide_eq_true h4]; simp
  ·rw [decide_eq_false h4]; simp
theorem atom_len {s:List Int} {a:At} (h:atomOk s a=true):a.2.length≤3:=by
 unfold atomOk at h
 rw [qi,qi,decide_eq_true_eq] at h
 have h1:=h.1
 unfold relOk at h1
 rw [qi,inR_iff] at h1
 have h2:=h1.1
 unfold schOk at h2
 rw [qi] at h2
 have hi:a.1.toNat<s.length:=by omega
 have h3:=List.all_eq_true.1 h2.1 s[a.1.toNat] (qd hi)
 rw [inR_iff] at h3
 have h4:arity s a.1=s[a.1.toNat]:=by
  unfold arity
  rw [List.getD_eq_getElem?_getD,qh hi]; rfl
 omega
theorem contains_M (l:List Int) (x:Int) (h:l.length≤4294967296):Slices.Contains_Lint_int l x=some (decide (x∈l)):=by
 unfold Slices.Contains_Lint_int Slices.Index_Lint_int
 rw [index_loop (Slices.Index_Lint_int_l1 l x) l (fun y=>decide (x=y)) h (fun k=>by rw [Slices.Index_Lint_int_l1,if_neg (by simp)]) (fun k i hi=>by
  rw [Slices.Index_Lint_int_l1,if_pos (decide_eq_true (by omega)),idx_nat l hi,qb,w64_succ (by omega)])]
 have e:(l.any fun y=>decide (x=y))=decide (x∈l):=by
  rw [Ql,Qp,decide_eq_true_iff]
  constructor
  ·rintro ⟨y,hy,h⟩
   rw [decide_eq_true_iff] at h
   exact h ▸ hy
  ·intro h
   exact ⟨x,h,decide_eq_true rfl⟩
 rw [e]
 by_cases hx:x∈l
 ·rw [decide_eq_true hx] at e ⊢
  simp only [if_true,qb]
  rw [decide_eq_true ((fidx_nn _ l 0).2 e)]
 ·rw [decide_eq_false hx] at e ⊢
  rfl
def varL (as:List At):List Int:=as.flatMap fun a=>a.2.filter varB
theorem vars_S2 (q:Qu) (j:Nat) (hj:j<q.2.length) (x:List Int) (hx:x.length≤1000) (hl:q.2[j].2.length≤1000):S.VarsOf_l2 q (j:Int) FUEL x 0=some ((q.2[j].2.filter varB).foldl putI x):=by
 obtain ⟨k,s,h1,h2,h3⟩:=loop_inv0 (S.VarsOf_l2 q (j:Int)) (fun i z=>z=((q.2[j].2.take i).filter varB).foldl putI x∧z.length≤1000+i) q.2[j].2.length (by omega) x ⟨by simp,by omega⟩ (fun k i z hi hz=>by
  refine ⟨if varB q.2[j].2[i] then putI z q.2[j].2[i] else z,?_,?_,?_⟩
  ·rw [S.VarsOf_l2,idx_nat q.2 hj,qb,if_pos (decide_eq_true (by omega)),qb,idx_nat _ hi,qb,var_S,qb,w64_succ (by omega)]
   cases varB q.2[j].2[i]
   ·rfl
   ·simp only [if_true,qb]
    rw [idx_nat _ hi,qb,put_S _ _ (by omega)]; rfl
  ·rw [hz.1,qm,qh hi,Qk,Qc]
   cases h:varB q.2[j].2[i] <;> simp [h]
  ·have:=putI_len z q.2[j].2[i]
   split <;> omega)
 rw [h1,S.VarsOf_l2,idx_nat q.2 hj,qb,if_neg (by simp),h2,ql]
theorem var_val {as:List At} {z:Int} (h:z∈varL as):10≤z∧z≤17:=by
 obtain ⟨a,_,h⟩:=List.mem_flatMap.1 h
 rw [List.mem_filter] at h
 exact inR_iff.1 h.2
theorem vars_S (q:Qu) (h:q.2.length≤1048576) (hl:∀a∈q.2,a.2.length≤1000):∃r,S.VarsOf q=some r∧r.length≤8∧∀z,z∈r↔z∈varL q.2:=by
 have small:∀{x:List Int} {as:List At},ascI x→(∀z,z∈x↔z∈varL as)→x.length≤8:=fun {x as} h1 h2=>by
  have:=ascI_len x 10 17 h1 (fun z hz=>var_val ((h2 z).1 hz)) (by omega)
  omega
 obtain ⟨k,s,g1,g2,g3⟩:=loop_inv0 (S.VarsOf_l1 q) (fun i x=>ascI x∧∀z,z∈x↔z∈varL (q.2.take i)) q.2.length (by omega) [] ⟨List.Pairwise.nil,by simp [varL]⟩ (fun k i x hi hx=>by
  have hxl:=small hx.1 hx.2
  refine ⟨(q.2[i].2.filter varB).foldl putI x,?_,asc_fold hx.1,fun z=>?_⟩
  ·rw [S.VarsOf_l1,if_pos (decide_eq_true (by omega)),vars_S2 q i hi x (by omega) (hl _ (qd hi)),qb,w64_succ (by omega)]
  ·rw [mem_fold,hx.2]
   unfold varL
   rw [qm,qh hi,Qr]
   simp)
 rw [ql] at g3
 refine ⟨s,?_,small g2 g3,g3⟩
 unfold S.VarsOf
 rw [g1,S.VarsOf_l1,if_neg (by simp)]; rfl
theorem terms_M2 (a:At) (x:List Int) (hx:x.length≤100000) (hl:a.2.length≤1000):M.termsOf_M_IsVar_l2 a FUEL x 0=some (x++a.2.filter varB):=by
 obtain ⟨k,s,h1,h2⟩:=loop_inv0 (M.termsOf_M_IsVar_l2 a) (fun i z=>z=x++(a.2.take i).filter varB) a.2.length (by omega) x (by simp) (fun k i z hi hz=>by
  have hzl:z.length≤100000+i:=by
   rw [hz,qo]
   have:=qw varB (a.2.take i)
   rw [qg] at this
   omega
  refine ⟨if varB a.2[i] then z++[a.2[i]] else z,?_,?_⟩
  ·rw [M.termsOf_M_IsVar_l2,if_pos (decide_eq_true (by omega)),idx_nat _ hi,qb,var_M,qb,w64_succ (by omega)]
   cases varB a.2[i]
   ·rfl
   ·simp only [if_true]
    rw [app_eq _ _ (by simp; omega)]; rfl
  ·rw [hz,qm,qh hi,Qk]
   cases h:varB a.2[i] <;> simp [h])
 rw [h1,M.termsOf_M_IsVar_l2,if_neg (by simp),h2,ql]
theorem varL_len (as:List At) (hl:∀a∈as,a.2.length≤1000):(varL as).length≤as.length*1000:=by
 induction as with
 | nil=>simp [varL]
 | cons a as ih =>
  have h1:=ih fun b hb=>hl b (by simp [hb])
  have h2:=hl a (by simp)
  have h3:=qw varB a.2
  have e:varL (a::as)=a.2.filter varB++varL as:=rfl
  rw [e,qo,qf,Nat.add_mul]; omega
theorem vars_M (q:Qu) (h:q.2.length≤10) (hl:∀a∈q.2,a.2.length≤1000):∃r,M.VarsOf q=some r∧r.length≤8∧∀z,z∈r↔z∈varL q.2:=by
 obtain ⟨g1,g2⟩:=compact_sort (varL q.2)
 have hlen:=varL_len q.2 hl
 have e:M.termsOf_M_IsVar_l1 q.2 FUEL [] 0=some (varL q.2):=by
  refine flat_loop (M.termsOf_M_IsVar_l1 q.2) q.2 (fun a=>a.2.filter varB) (by omega) (fun k x=>by rw [M.termsOf_M_IsVar_l1,if_neg (by simp)]) (fun k x i hi hx=>?_)
  have hxl:x.length≤10*1000:=by
   rw [hx]
   exact qp (varL_len (q.2.take i) fun a ha=>hl a (qs ha)) (Nat.mul_le_mul_right _ (by rw [qg]; omega))
  rw [M.termsOf_M_IsVar_l1,if_pos (decide_eq_true (by omega)),idx_nat _ hi,qb,terms_M2 _ _ (by omega) (hl _ (qd hi)),qb,w64_succ (by omega)]
 refine ⟨Lib.compact (sortL (varL q.2)),?_,?_,g2⟩
 ·unfold M.VarsOf M.termsOf_M_IsVar Slices.Sort_Lint_int Slices.Compact_Lint_int sortI compactI
  rw [e,qb,if_pos (by omega)]; rfl
 ·have:=ascI_len _ 10 17 g1 (fun z hz=>var_val ((g2 z).1 hz)) (by omega)
  omega
def queryOk (s:List Int) (q:Qu):Bool:=schOk s&&(inR (q.2.length:Int) 1 4&&(q.2.all (atomOk s)&&(decide ((q.1.length:Int)≤3)&&q.1.all fun t=>decide (t∈varL q.2))))
theorem query_S (s:List Int) (q:Qu) (hs:s.length≤1048576) (h1:q.1.length≤1048576) (h2:q.2.length≤1048576) (ha:∀a∈q.2,a.2.length≤1048576):S.IsQuery s q=some (queryOk s q):=by
 unfold S.IsQuery queryOk
 rw [all_loop (S.IsQuery_l1 q s) q.2 (atomOk s) false (by omega) (fun k=>by rw [S.IsQuery_l1,if_neg (by simp)]) (fun k i hi=>by
  rw [S.IsQuery_l1,if_pos (decide_eq_true (by omega)),idx_nat _ hi,qb,atom_S s _ hs (ha _ (qd hi)),qb,w64_succ (by omega)]
  cases atomOk s q.2[i] <;> rfl)]
 cases h3:q.2.all (atomOk s)
 ·simp
 ·obtain ⟨v,e1,e2,e3⟩:=vars_S q h2 (fun a hm=>qp (atom_len (List.all_eq_true.1 h3 a hm)) (by omega))
  simp only [if_true,qb]
  rw [show (q.1,q.2)=q from rfl,e1]
  simp only [qb]
  rw [all_loop (S.IsQuery_l2 q v) q.1 (fun t=>decide (t∈varL q.2)) false (by omega) (fun k=>by rw [S.IsQuery_l2,if_neg (by simp)]) (fun k i hi=>by
   rw [S.IsQuery_l2,if_pos (decide_eq_true (by omega)),idx_nat _ hi,qb,has_S _ _ (by omega),qb,w64_succ (by omega)]
   have:decide (q.1[i]∈v)=decide (q.1[i]∈varL q.2):=by rw [decide_eq_decide,e3]
   rw [this]
   cases decide (q.1[i]∈varL q.2) <;> rfl)]
  cases h4:q.1.all fun t=>decide (t∈varL q.2)
  ·simp
  ·simp only [if_true,qb]
   rw [IsSchema_S s (by omega),inS]
   cases schOk s
   ·rfl
   ·cases inR (q.2.length:Int) 1 4
    ·rfl
    ·simp
theorem query_M (s:List Int) (q:Qu) (hs:s.length≤1048576) (h1:q.1.length≤1048576) (h2:q.2.length≤1048576) (ha:∀a∈q.2,a.2.length≤1048576):M.IsQuery s q=some (queryOk s q):=by
 unfold M.IsQuery queryOk
 rw [IsSchema_M s (by omega),qb,inM]
 cases schOk s
 ·rfl
 ·cases h5:inR (q.2.length:Int) 1 4
  ·rfl
  ·rw [inR_iff] at h5
   simp only [if_true,qb]
   rw [Slices_ContainsFunc_Limpl_Atom_impl_Atom_M_IsQuery_c1_eq q.2 s (fun a=>!atomOk s a) (by omega) (fun a hm=>by unfold M.IsQuery_c1; rw [show (a.1,a.2)=a from rfl,atom_M s a hs (ha a hm)]; rfl),any_not]
   cases h3:q.2.all (atomOk s)
   ·simp
   ·obtain ⟨v,e1,e2,e3⟩:=vars_M q (by omega) (fun a hm=>qp (atom_len (List.all_eq_true.1 h3 a hm)) (by omega))
    simp only [qj,qr,if_true,qb]
    unfold M.hasHead
    rw [show (q.1,q.2)=q from rfl,e1]
    simp only [qb]
    rw [Slices_ContainsFunc_Lint_int_M_hasHead_c1_eq q.1 v (fun t=>!decide (t∈varL q.2)) (by omega) (fun t ht=>by
     unfold M.hasHead_c1
     rw [contains_M v t (by omega),qb]
     have:decide (t∈v)=decide (t∈varL q.2):=by rw [decide_eq_decide,e3]
     rw [this]),any_not]
    by_cases h6:(q.1.length:Int)≤3
    ·rw [decide_eq_true h6]; simp
    ·rw [decide_eq_false h6]; simp
def okFs (l:List Fa):Prop:=l.length≤10∧∀f∈l,f.2.length≤4
def okMs (l:List Mf):Prop:=l.length≤5∧∀m∈l,m.2.1.length≤100
def okTo (t:To):Prop:=t.1.2.length≤101∧okFs t.2
def okTs (l:List To):Prop:=l.length≤6∧∀t∈l,okTo t
theorem okFs_sm {l:List Fa} (h:okFs l):SZ.sm l:=by
 have:=h.1
 exact ⟨by omega,fun f hf=>sm_fact (by have:=h.2 f hf; omega)⟩
theorem okMs_sm {l:List Mf} (h:okMs l):SZ.sm l:=by
 have h1:=h.1
 exact ⟨by omega,fun m hm=>⟨trivial,sm_ints (by have:=h.2 m hm; omega),trivial,trivial,trivial⟩⟩
theorem okTo_sm {t:To} (h:okTo t):SZ.sm t:=⟨sm_fact (f:=t.1) (by have:=h.1; omega),okFs_sm h.2⟩
theorem okTs_sm {l:List To} (h:okTs l):SZ.sm l:=by
 have:=h.1
 exact ⟨by omega,fun t ht=>okTo_sm (h.2 t ht)⟩
theorem szs_leB {α:Type} [SZ α] (b:Nat):∀l:List α,(∀x∈l,SZ.sz x≤b)→szs l≤l.length*b
 | [],_=>Nat.zero_le _
 | x::l,h=>by
  have h1:=szs_leB b l fun y hy=>h y (by simp [hy])
  have h2:=h x (by simp)
  have h3:szs (x::l)=SZ.sz x+szs l:=rfl
  rw [h3,qf,Nat.add_mul]; omega
theorem fact_sz (f:Fa):SZ.sz f=f.2.length:=by
 have h3:SZ.sz f=SZ.sz f.1+SZ.sz f.2:=rfl
 have h4:SZ.sz f.2=f.2.length:=sz_flat (fun _=>rfl) _
 have h5:SZ.sz f.1=0:=rfl
 omega
theorem okFs_sz {l:List Fa} (h:okFs l):SZ.sz l≤50:=by
 have h1:=szs_leB 4 l fun f hf=>by rw [fact_sz]; exact h.2 f hf
 have h2:=h.1
 have e1:SZ.sz l=l.length+szs l:=rfl
 omega
theorem okTo_sz {t:To} (h:okTo t):SZ.sz t≤151:=by
 have h1:=okFs_sz h.2
 have h2:=fact_sz t.1
 have h3:=h.1
 have e1:SZ.sz t=SZ.sz t.1+SZ.sz t.2:=rfl
 omega
theorem okTs_sz {l:List To} (h:okTs l):SZ.sz l≤1048576:=by
 have h1:=szs_leB 151 l fun t ht=>okTo_sz (h.2 t ht)
 have h2:=h.1
 have e1:SZ.sz l=l.length+szs l:=rfl
 omega
theorem anySchema_len (a:Code) (p s:Int) (ha:a.length≤1048576) (hp:Pos a p):∃(m:List Int) (q t:Int),S.l2AnySchema (a,p,s)=some (m,(a,q,t))∧m.length≤4∧Pos a q:=by
 obtain ⟨m,q1,t1,e1,-,hl,p1⟩:=schema_ok a p s ha hp
 obtain ⟨b,q2,t2,e2,p2⟩:=once_ok a q1 t1 14 ha p1 (by omega) (by omega)
 unfold S.l2AnySchema
 rw [e1,qb]
 simp only
 rw [e2,qb]
 simp only
 cases b
 ·exact ⟨m,q2,t2,rfl,by omega,p2⟩
 ·obtain ⟨v,q3,t3,e3,-,p3⟩:=pick_ok a q2 t2 [0,1,4] ha p2 (by simp) (by simp)
  rw [if_pos rfl,e3,qb,app_eq _ _ (by simp; omega)]
  exact ⟨_,q3,t3,rfl,by simp; omega,p3⟩
theorem anyFact_gen (a:Code) (p s:Int) (sc:List Int) (ha:a.length≤1048576) (hp:Pos a p) (hsl:sc.length≤4) :
  ∃(f:Fa) (q t:Int),S.l2AnyFact (a,p,s) sc=some (f,(a,q,t))∧f.2.length≤4∧Pos a q:=by
 cases hs:schOk sc with
 | true=>exact anyFact_ok a p s sc ha hp hs
 | false =>
  obtain ⟨v2,q2,t2,e2,-,-,p2⟩:=below_ok a p s 8 ha hp (by omega) (by omega)
  unfold S.l2AnyFact
  rw [IsSchema_S sc (by omega),hs,qb,if_neg (by simp),qb]
  simp only
  rw [e2,qb]
  simp only
  by_cases c0:v2=0
  ·obtain ⟨v3,q3,t3,e3,-,-,p3⟩:=below_ok a q2 t2 5 ha p2 (by omega) (by omega)
   rw [if_pos (decide_eq_true c0),e3]
   exact ⟨_,q3,t3,rfl,by simp,p3⟩
  ·rw [if_neg (by simpa using c0)]
   by_cases c1:v2=1
   ·obtain ⟨v3,q3,t3,e3,-,p3⟩:=pick_ok a q2 t2 [-1,9,10] ha p2 (by simp) (by simp)
    have hi:idx ([1]:List Int) 0=some 1:=idx_nat [1] (i:=0) (by simp)
    rw [if_pos (decide_eq_true c1),e3,qb,hi]
    exact ⟨_,q3,t3,rfl,by simp,p3⟩
   ·rw [if_neg (by simpa using c1)]
    by_cases c2:v2=2
    ·rw [if_pos (decide_eq_true c2),app_eq _ _ (by simp)]
     exact ⟨_,q2,t2,rfl,by simp,p2⟩
    ·rw [if_neg (by simpa using c2)]
     exact ⟨_,q2,t2,rfl,by simp,p2⟩
theorem anyFacts_gen (a:Code) (p s:Int) (sc:List Int) (ha:a.length≤1048576) (hp:Pos a p) (hsl:sc.length≤4) :
  ∃(l:List Fa) (q t:Int),S.l2AnyFacts (a,p,s) sc=some (l,(a,q,t))∧okFs l∧Pos a q:=by
 cases hs:schOk sc with
 | true =>
  obtain ⟨l,q,t,e,h1,h2,hq⟩:=anyFacts_ok a p s sc ha hp hs
  exact ⟨l,q,t,e,⟨by omega,h2⟩,hq⟩
 | false =>
  obtain ⟨b,q2,t2,e2,p2⟩:=once_ok a p s 10 ha hp (by omega) (by omega)
  unfold S.l2AnyFacts
  rw [IsSchema_S sc (by omega),hs,qb,if_neg (by simp),qb]
  simp only
  rw [e2,qb]
  simp only
  cases b
  ·exact ⟨[],q2,t2,rfl,⟨by simp,fun f hf=>by cases hf⟩,p2⟩
  ·obtain ⟨f,q3,t3,e3,h3,p3⟩:=anyFact_gen a q2 t2 sc ha p2 hsl
   rw [if_pos rfl,e3,qb,app_eq _ _ (by simp)]
   refine ⟨_,q3,t3,rfl,⟨by simp,fun g hg=>?_⟩,p3⟩
   rw [List.nil_append,qn] at hg; subst hg; exact h3
theorem draw5b_ok (a:Code) (p s:Int) (ha:a.length≤1048576) (hp:Pos a p) :
  ∃(sc:List Int) (l:List Mf) (f:List Fa) (q t:Int),S.l5Draw (a,p,s)=some (sc,l,f,(a,q,t))∧sc.length≤4∧okMs l∧okFs f∧Pos a q:=by
 obtain ⟨sc,q1,t1,e1,hs,hsl,p1⟩:=schema_ok a p s ha hp
 obtain ⟨l,q2,t2,e2,hl,hm,p2⟩:=methods_ok a q1 t1 sc ha p1 hs
 obtain ⟨f,q3,t3,e3,hf1,-,hf2,p3⟩:=facts_ok a q2 t2 sc 8 ha p2 hs ⟨by omega,by omega⟩
 obtain ⟨v4,q4,t4,e4,-,-,p4⟩:=below_ok a q3 t3 20 ha p3 (by omega) (by omega)
 have hf:okFs f:=⟨by omega,fun x hx=>by have:=hf2 x hx; omega⟩
 unfold S.l5Draw
 rw [e1,qb]
 simp only
 rw [e2,qb]
 simp only
 rw [e3,qb]
 simp only
 rw [e4,qb]
 simp only
 by_cases c0:v4=0
 ·obtain ⟨g,q5,t5,e5,hg,p5⟩:=anyMethod_ok a q4 t4 sc ha p4 hs
  rw [if_pos (decide_eq_true c0),e5,qb,app_eq _ _ (by simp; omega)]
  refine ⟨sc,_,f,q5,t5,rfl,by omega,⟨by simp; omega,fun m hmm=>?_⟩,hf,p5⟩
  rcases List.mem_append.1 hmm with hmm | hmm
  ·exact hm m hmm
  ·rw [qn] at hmm; subst hmm; exact hg
 ·rw [if_neg (by simpa using c0)]
  by_cases c1:v4=1
  ·obtain ⟨g,q5,t5,e5,h5,h6,p5⟩:=anyFacts_ok a q4 t4 sc ha p4 hs
   rw [if_pos (decide_eq_true c1),e5]
   exact ⟨sc,l,g,q5,t5,rfl,by omega,⟨by omega,hm⟩,⟨by omega,h6⟩,p5⟩
  ·rw [if_neg (by simpa using c1)]
   by_cases c2:v4=2
   ·obtain ⟨g,q5,t5,e5,h5,p5⟩:=anySchema_len a q4 t4 ha p4
    rw [if_pos (decide_eq_true c2),e5]
    exact ⟨g,l,f,q5,t5,rfl,h5,⟨by omega,hm⟩,hf,p5⟩
   ·rw [if_neg (by simpa using c2)]
    exact ⟨sc,l,f,q4,t4,rfl,by omega,⟨by omega,hm⟩,hf,p4⟩
theorem idx_meth {s:List Int} {l:List Me} {a:Ac} (h:accOk s l a=true):idx l a.1=some (methAt l a.1):=by
 have h2:=inR_iff.1 (acc_meth h).2.1
 obtain ⟨n,hn⟩:∃n:Nat,a.1=n:=⟨a.1.toNat,by omega⟩
 have hl:n<l.length:=by omega
 rw [hn,idx_nat l hl]
 unfold methAt
 rw [Int.toNat_natCast]; simp [hl]
theorem resp_loop (l:List Me) (acc:Ac) (m:Me) (hm:idx l acc.1=some m) (c:Nat) (hc:m.2.2.1=(c:Int)) (hc9:c≤9) (fs:List Fa) (hfs:okFs fs) (h1:1≤fs.length) (n:Int) :
  ∀(k K i:Nat) (x:List Fa),i+k=c→k<K→x.length≤i→okFs x→∃r,S.RespondTo_l1 l acc fs n K x (i:Int)=some r∧okFs r:=by
 have hsm:=okFs_sm hfs
 have hfl:=hfs.1
 intro k
 induction k with
 | zero =>
  intro K i x h2 hK hx ho
  obtain ⟨K,rfl⟩:∃k,K=k+1:=⟨K-1,by omega⟩
  rw [S.RespondTo_l1,hm,qb,hc,if_neg (by simp; omega)]
  exact ⟨x,rfl,ho⟩
 | succ k ih =>
  intro K i x h2 hK hx ho
  obtain ⟨K,rfl⟩:∃k,K=k+1:=⟨K-1,by omega⟩
  have hz:nz (fs.length:Int)=some ():=by unfold nz; rw [if_neg (by omega)]
  obtain ⟨j,hj,hj2⟩:∃j:Nat,(w64 (((if (0:Int) > n then 0 else n).tmod (fs.length:Int))+(i:Int))).tmod (fs.length:Int)=(j:Int)∧j<fs.length:=by
   have h0:0≤(if (0:Int) > n then 0 else n):=by split <;> omega
   have h3:=Int.tmod_nonneg (fs.length:Int) h0
   have h4:=Int.tmod_lt_of_pos (if (0:Int) > n then 0 else n) (by omega:(0:Int)<(fs.length:Int))
   rw [w64_sm (by omega) (by omega)]
   have h5:=Int.tmod_nonneg (fs.length:Int) (by omega:0≤(if (0:Int) > n then 0 else n).tmod (fs.length:Int)+(i:Int))
   have h6:=Int.tmod_lt_of_pos ((if (0:Int) > n then 0 else n).tmod (fs.length:Int)+(i:Int)) (by omega:(0:Int)<(fs.length:Int))
   exact ⟨_,(Int.toNat_of_nonneg h5).symm,by omega⟩
  have hmem:=qd hj2
  rw [S.RespondTo_l1,hm,qb,hc,if_pos (decide_eq_true (by omega)),hz,qb,hj,idx_nat fs hj2,qb,AddFact_S x _ (okFs_sm ho) (hsm.2 _ hmem),qb,w64_succ (by omega)]
  have hl:=addF_len x fs[j]
  refine ih K (i+1) _ (by omega) (by omega) (by omega) ⟨by omega,fun f hf=>?_⟩
  rcases mem_addF' hf with hf | rfl
  ·exact ho.2 f hf
  ·exact hfs.2 _ hmem
theorem respond_ok (s:List Int) (l:List Me) (fs:List Fa) (acc:Ac) (n:Int) (hs:s.length≤4) (hl:okMs l) (hf:okFs fs) (ha:acc.2.length≤101):∃r,S.RespondTo s l fs acc n=some r∧okFs r:=by
 have zs:SZ.sm s:=sm_ints (by omega)
 have zl:=okMs_sm hl
 have zf:=okFs_sm hf
 have za:SZ.sm acc:=sm_fact (f:=acc) (by omega)
 unfold S.RespondTo S.MatchesOf
 rw [show (acc.1,acc.2)=acc from rfl,IsAccess_S s l acc zs zl za,AreFacts_S s fs zs zf]
 have hnil:okFs []:=⟨by simp,fun f hf=>by cases hf⟩
 cases h1:accOk s l acc with
 | false=>exact ⟨[],rfl,hnil⟩
 | true =>
  cases h2:factsOk s fs with
  | false=>exact ⟨[],rfl,hnil⟩
  | true =>
   have hm:=idx_meth h1
   have hfit:∀f∈fs,Fit (methAt l acc.1) acc.2 f:=fun f hf=>fit_of h1 (facts_all h2 f hf) (by omega)
   simp only [qb,qj,qc,if_false]
   rw [hm]
   simp only [qb]
   rw [l5Matches_S _ _ _ zf hfit]
   simp only [qb]
   have hflt:okFs (fs.filter (fitsF (methAt l acc.1) acc.2)):=⟨qp (qw _ _) hf.1,fun f h=>hf.2 f (List.mem_filter.1 h).1⟩
   generalize fs.filter (fitsF (methAt l acc.1) acc.2)=x at hflt
   have hmk:=(acc_meth h1).2.2.2.1
   unfold methOk fitsOk at hmk
   simp only [qi,inR_iff] at hmk
   obtain ⟨c,hc⟩:∃c:Nat,(methAt l acc.1).2.2.1=c:=⟨(methAt l acc.1).2.2.1.toNat,by omega⟩
   have hend:∃r,((if decide ((x.length:Int)=0)=true then some true else if decide ((methAt l acc.1).2.2.1=0)=true then some true else some (decide ((x.length:Int)≤(methAt l acc.1).2.2.1))).bind fun x2 =>
     if x2=true then some x else (nz (x.length:Int)).bind fun _=>(S.RespondTo_l1 l acc x n FUEL [] 0).bind fun x7=>some x7)=some r∧okFs r:=by
    by_cases h0:x.length=0
    ·rw [if_pos (decide_eq_true (by omega))]
     exact ⟨x,rfl,hflt⟩
    ·have hz:nz (x.length:Int)=some ():=by unfold nz; rw [if_neg (by omega)]
     obtain ⟨r,e,hr⟩:=resp_loop l acc _ hm c hc (by omega) x hflt (by omega) n c FUEL 0 [] (by omega) (by rw [FUEL_eq]; omega) (by simp) hnil
     have e':S.RespondTo_l1 l acc x n FUEL [] 0=some r:=e
     rw [if_neg (by rw [decide_eq_true_iff]; omega),hz,qb,e']
     by_cases h3:(methAt l acc.1).2.2.1=0
     ·rw [if_pos (decide_eq_true h3)]; exact ⟨x,rfl,hflt⟩
     ·rw [if_neg (by simpa using h3),qb]
      cases decide ((x.length:Int)≤(methAt l acc.1).2.2.1)
      ·exact ⟨r,rfl,hr⟩
      ·exact ⟨x,rfl,hflt⟩
   exact hend
theorem list28_loop (a:Code) (ha:a.length≤1048576) (c:Code × Int × Int) (hc:c.1=a) (x:List Int × List Mf × List Fa × Code × Int × Int) (h1:x.1.length≤4) (h2:okMs x.2.1) (h3:okFs x.2.2.1) :
  ∀(n K:Nat) (p s:Int) (l:List To),n<K→l.length+n≤5→(∀t∈l,okTo t)→Pos a p→∃(q t:Int) (m:List To),S.l28List_l1 x c K p s l (n:Int)=some (q,t,m)∧m.length≤5∧(∀t∈m,okTo t)∧Pos a q:=by
 intro n
 induction n with
 | zero =>
  intro K p s l hK hl hm hp
  obtain ⟨K,rfl⟩:∃k,K=k+1:=⟨K-1,by omega⟩
  rw [S.l28List_l1,if_neg (by simp)]
  exact ⟨p,s,l,rfl,by omega,hm,hp⟩
 | succ n ih =>
  intro K p s l hK hl hm hp
  obtain ⟨K,rfl⟩:∃k,K=k+1:=⟨K-1,by omega⟩
  have zs:SZ.sm x.1:=sm_ints (by omega)
  have zl:=okMs_sm h2
  have h0:=h2.1
  rw [S.l28List_l1,if_pos (decide_eq_true (by omega)),AreMethods_S x.1 x.2.1 zs zl,qb,qb]
  cases hme:methsOk x.1 x.2.1 with
  | false =>
   rw [if_neg (by simp)]
   exact ⟨p,s,l,rfl,by omega,hm,hp⟩
  | true =>
   obtain ⟨f,q1,t1,e1,hf,p1⟩:=access_ok a p s x.2.1 ha hp h2.1 h2.2
   rw [if_pos rfl,hc,e1,qb]
   simp only
   have hx:∃(y z:Int) (b:Bool),(if decide (0<(x.2.2.1.length:Int))=true then (S.l1Once (a,q1,t1) 6).bind fun x16=>some (x16.2.2.1,x16.2.2.2,x16.1) else some (q1,t1,false))=some (y,z,b)∧Pos a y∧(b=true→1≤x.2.2.1.length):=by
    by_cases c1:0<(x.2.2.1.length:Int)
    ·obtain ⟨b,q2,t2,e2,p2⟩:=once_ok a q1 t1 6 ha p1 (by omega) (by omega)
     rw [if_pos (decide_eq_true c1),e2]
     exact ⟨q2,t2,b,rfl,p2,fun _=>by omega⟩
    ·rw [if_neg (by simpa using c1)]
     exact ⟨q1,t1,false,rfl,p1,fun h=>by cases h⟩
   obtain ⟨y,z,b,hx1,p2,hb⟩:=hx
   rw [hx1,qb]
   simp only
   obtain ⟨v3,q3,t3,e3,-,-,p3⟩:=below_ok a y z 3 ha p2 (by omega) (by omega)
   have hnext:∀(fs:List Fa),okFs fs→∃r,S.RespondTo x.1 x.2.1 fs (f.1,f.2) v3=some r∧∀t∈l++[((f.1,f.2),r)],okTo t:=by
    intro fs hfs
    obtain ⟨r,er,hr⟩:=respond_ok x.1 x.2.1 fs f v3 h1 h2 hfs (by omega)
    refine ⟨r,er,fun t ht=>?_⟩
    rcases List.mem_append.1 ht with ht | ht
    ·exact hm t ht
    ·rw [qn] at ht; subst ht
     exact ⟨by show f.2.length≤101; omega,hr⟩
   cases hbb:b with
   | true =>
    have h4:=hb hbb
    have hsub:sub x.2.2.1 1 (x.2.2.1.length:Int)=some (x.2.2.1.drop 1):=by
     unfold sub
     rw [if_pos ⟨by omega,by omega,by omega⟩]
     simp
    obtain ⟨r,er,hr⟩:=hnext (x.2.2.1.drop 1) ⟨by rw [Qo]; have:=h3.1; omega,fun g hg=>h3.2 g (Qh hg)⟩
    rw [if_pos rfl,hsub,qb,e3,qb]
    simp only
    rw [er,qb,app_eq _ _ (by simp; omega),qb,qb]
    simp only
    rw [w64_down n (by omega)]
    exact ih K q3 t3 _ (by omega) (by simp; omega) hr p3
   | false =>
    obtain ⟨r,er,hr⟩:=hnext x.2.2.1 h3
    rw [if_neg (by simp),e3,qb]
    simp only
    rw [er,qb,app_eq _ _ (by simp; omega),qb,qb]
    simp only
    rw [w64_down n (by omega)]
    exact ih K q3 t3 _ (by omega) (by simp; omega) hr p3
theorem list28_ok (a:Code) (p s:Int) (ha:a.length≤1048576) (hp:Pos a p):∃(sc:List Int) (l:List Mf) (f:List Fa) (ts:List To) (q t:Int),S.l28List (a,p,s)=some (sc,l,f,ts,(a,q,t))∧sc.length≤4∧okMs l∧okFs f∧okTs ts∧Pos a q:=by
 obtain ⟨sc,l,f,q1,t1,e1,h1,h2,h3,p1⟩:=draw5b_ok a p s ha hp
 obtain ⟨v2,q2,t2,e2,a2,b2,p2⟩:=below_ok a q1 t1 5 ha p1 (by omega) (by omega)
 obtain ⟨n,rfl⟩:∃n:Nat,v2=n:=⟨v2.toNat,by omega⟩
 obtain ⟨q3,t3,m,e3,hml,hm,p3⟩:=list28_loop a ha (a,p,s) rfl (sc,l,f,(a,q1,t1)) h1 h2 h3 n FUEL q2 t2 [] (by rw [FUEL_eq]; omega) (by simp; omega) (fun t ht=>by cases ht) p2
 obtain ⟨b4,q4,t4,e4,p4⟩:=once_ok a q3 t3 10 ha p3 (by omega) (by omega)
 unfold S.l28List
 rw [e1,qb]
 simp only
 rw [e2,qb]
 simp only
 rw [e3,qb]
 simp only
 rw [e4,qb]
 simp only
 cases b4
 ·exact ⟨sc,l,f,m,q4,t4,rfl,h1,h2,h3,⟨by omega,hm⟩,p4⟩
 ·obtain ⟨g,q5,t5,e5,h5,p5⟩:=anyAccess_ok a q4 t4 l ha p4 h2.1 h2.2
  obtain ⟨k,q6,t6,e6,h6,p6⟩:=anyFacts_gen a q5 t5 sc ha p5 h1
  rw [if_pos rfl,e5,qb]
  simp only
  rw [e6,qb]
  simp only
  rw [app_eq _ _ (by simp; omega)]
  refine ⟨sc,l,f,_,q6,t6,rfl,h1,h2,h3,⟨by simp; omega,fun t ht=>?_⟩,p6⟩
  rcases List.mem_append.1 ht with ht | ht
  ·exact hm t ht
  ·rw [qn] at ht; subst ht
   exact ⟨h5,h6⟩
theorem union_len {l:List To} (h:okTs l):SZ.sm (unF l []):=(unF_sm l [] sm_nil (by have:=okTs_sz h; have e:SZ.sz l=l.length+szs l:=rfl; simp; omega) (okTs_sm h).2).1
def valB (x:Int):Bool:=inR x 0 9
def okT (t:Int):Prop:=valB t=true→t≤3∨t=9
def okAt (a:At):Prop:=1≤a.2.length∧a.2.length≤3∧∀t∈a.2,okT t
def okQ (q:Qu):Prop:=q.1.length≤10∧1≤q.2.length∧q.2.length≤3∧∀a∈q.2,okAt a
theorem szs_small:∀l:List At,(∀f∈l,f.2.length≤3)→szs l≤l.length*3
 | [],_=>Nat.zero_le _
 | f::l,h=>by
  have h1:=szs_small l fun g hg=>h g (by simp [hg])
  have h2:=h f (by simp)
  have h3:SZ.sz f=SZ.sz f.1+SZ.sz f.2:=rfl
  have h4:SZ.sz f.2=f.2.length:=sz_flat (fun _=>rfl) _
  have h5:SZ.sz f.1=0:=rfl
  have h6:szs (f::l)=SZ.sz f+szs l:=rfl
  rw [h6,qf,Nat.add_mul]; omega
theorem okQ_sz {q:Qu} (h:okQ q):SZ.sz q≤1048576:=by
 have h1:=szs_small q.2 fun a ha=>(h.2.2.2 a ha).2.1
 have e1:SZ.sz q=SZ.sz q.1+SZ.sz q.2:=rfl
 have e2:SZ.sz q.2=q.2.length+szs q.2:=rfl
 have e3:SZ.sz q.1=q.1.length:=sz_flat (fun _=>rfl) _
 have:=h.1
 have:=h.2.2.1
 omega
theorem terms_loop (a:Code) (ha:a.length≤1048576) (sc:List Int) (c:Code × Int × Int) (hc:c.1=a) (r:Nat) (hr:r<sc.length) (ar:Nat) (har:sc[r]=(ar:Int)) (h3:ar≤3) :
  ∀(n K i:Nat) (p s:Int) (l:List Int),i+n=ar→n<K→l.length=i→(∀t∈l,okT t)→Pos a p→∃(q t:Int) (m:List Int),S.l3Query_l2 sc c K (r:Int) l p s (i:Int)=some ((r:Int),m,q,t)∧m.length=ar∧(∀t∈m,okT t)∧Pos a q:=by
 intro n
 induction n with
 | zero =>
  intro K i p s l h1 hK hl hm hp
  obtain ⟨K,rfl⟩:∃k,K=k+1:=⟨K-1,by omega⟩
  rw [S.l3Query_l2,idx_nat sc hr,qb,har,if_neg (by simp; omega)]
  exact ⟨p,s,l,rfl,by omega,hm,hp⟩
 | succ n ih =>
  intro K i p s l h1 hK hl hm hp
  obtain ⟨K,rfl⟩:∃k,K=k+1:=⟨K-1,by omega⟩
  obtain ⟨v1,q1,t1,e1,a1,b1,p1⟩:=below_ok a p s 4 ha hp (by omega) (by omega)
  obtain ⟨b2,q2,t2,e2,p2⟩:=once_ok a q1 t1 4 ha p1 (by omega) (by omega)
  obtain ⟨v3,q3,t3,e3,a3,b3,p3⟩:=below_ok a q2 t2 4 ha p2 (by omega) (by omega)
  have hx:∃(y z x:Int),(if b2=true then (S.l1Below (a,q2,t2) 4).bind fun x27=>some (x27.2.2.1,x27.2.2.2,x27.1) else some (q2,t2,w64 (10+v1)))=some (y,z,x)∧okT x∧Pos a y:=by
   cases b2
   ·refine ⟨q2,t2,_,rfl,?_,p2⟩
    rw [w64_sm (by omega) (by omega)]
    intro h
    unfold valB at h
    have:=inR_iff.1 h
    omega
   ·rw [if_pos rfl,e3]
    exact ⟨q3,t3,v3,rfl,fun _=>.inl (by omega),p3⟩
  obtain ⟨y,z,x,ex,hx1,hx2⟩:=hx
  rw [S.l3Query_l2,idx_nat sc hr,qb,har,if_pos (decide_eq_true (by omega)),hc,e1,qb]
  simp only
  rw [e2,qb]
  simp only
  rw [ex,qb]
  simp only
  rw [app_eq _ _ (by simp; omega),qb,w64_succ (by omega)]
  exact ih K (i+1) y z (l++[x]) (by omega) (by omega) (by simp; omega) (fun t ht=>by
   rcases List.mem_append.1 ht with ht | ht
   ·exact hm t ht
   ·rw [qn] at ht; subst ht; exact hx1) hx2
theorem atoms_loop (a:Code) (ha:a.length≤1048576) (sc:List Int) (hs:schOk sc=true) (c:Code × Int × Int) (hc:c.1=a) (hd:List Int):∀(n K:Nat) (p s:Int) (l:List At),n<K→l.length+n≤3→(∀b∈l,okAt b)→Pos a p →
  ∃(q t:Int) (m:List At),S.l3Query_l1 c sc K p s hd l (n:Int)=some (q,t,hd,m)∧m.length=l.length+n∧(∀b∈m,okAt b)∧Pos a q:=by
 intro n
 induction n with
 | zero =>
  intro K p s l hK hl hm hp
  obtain ⟨K,rfl⟩:∃k,K=k+1:=⟨K-1,by omega⟩
  rw [S.l3Query_l1,if_neg (by simp)]
  exact ⟨p,s,l,rfl,by omega,hm,hp⟩
 | succ n ih =>
  intro K p s l hK hl hm hp
  obtain ⟨K,rfl⟩:∃k,K=k+1:=⟨K-1,by omega⟩
  have hsl:1≤sc.length∧sc.length≤3:=by
   unfold schOk at hs
   rw [qi,inR_iff] at hs
   omega
  obtain ⟨v1,q1,t1,e1,a1,b1,p1⟩:=below_ok a p s (sc.length:Int) ha hp (by omega) (by omega)
  obtain ⟨r,rfl⟩:∃n:Nat,v1=n:=⟨v1.toNat,by omega⟩
  have hr:r<sc.length:=by omega
  have har:=sch_arity hs hr
  obtain ⟨ar,har2⟩:∃n:Nat,sc[r]=n:=⟨sc[r].toNat,by omega⟩
  obtain ⟨q2,t2,m,e2,hml,hmt,p2⟩:=terms_loop a ha sc c hc r hr ar har2 (by omega) ar FUEL 0 q1 t1 [] (by omega) (by rw [FUEL_eq]; omega) rfl (fun t ht=>by cases ht) p1
  have e2':S.l3Query_l2 sc c FUEL (r:Int) [] q1 t1 0=some ((r:Int),m,q2,t2):=e2
  rw [S.l3Query_l1,if_pos (decide_eq_true (by omega)),hc,e1,qb]
  simp only
  rw [e2',qb]
  simp only
  rw [app_eq _ _ (by simp; omega),qb,w64_down n (by omega)]
  obtain ⟨q3,t3,m3,e3,h3,h4,p3⟩:=ih K q2 t2 (l++[((r:Int),m)]) (by omega) (by simp; omega) (fun b hb=>by
   rcases List.mem_append.1 hb with hb | hb
   ·exact hm b hb
   ·rw [qn] at hb; subst hb
    exact ⟨by show 1≤m.length; omega,by show m.length≤3; omega,hmt⟩) p2
  exact ⟨q3,t3,m3,e3,by rw [h3]; simp; omega,h4,p3⟩
theorem head_loop (a:Code) (ha:a.length≤1048576) (vs:List Int) (hv:vs.length≤100) (c:Code × Int × Int) (hc:c.1=a) (as:List At):∀(n K i:Nat) (p s:Int) (h:List Int),i+n=vs.length→n<K→h.length≤2→Pos a p →
  ∃(q t:Int) (m:List Int),S.l3Query_l3 vs c K p s h as (i:Int)=some (q,t,m,as)∧m.length≤2∧Pos a q:=by
 intro n
 induction n with
 | zero =>
  intro K i p s h h1 hK hh hp
  obtain ⟨K,rfl⟩:∃k,K=k+1:=⟨K-1,by omega⟩
  rw [S.l3Query_l3,if_neg (by simp; omega),qb,if_neg (by simp)]
  exact ⟨p,s,h,rfl,hh,hp⟩
 | succ n ih =>
  intro K i p s h h1 hK hh hp
  obtain ⟨K,rfl⟩:∃k,K=k+1:=⟨K-1,by omega⟩
  have hi:i<vs.length:=by omega
  rw [S.l3Query_l3,if_pos (decide_eq_true (by omega)),qb]
  by_cases h2:h.length<2
  ·obtain ⟨b,q1,t1,e1,p1⟩:=once_ok a p s 2 ha hp (by omega) (by omega)
   rw [if_pos (decide_eq_true (by omega)),hc,e1,qb]
   simp only
   cases b
   ·rw [if_neg (by simp),qb]
    simp only
    rw [w64_succ (by omega)]
    exact ih K (i+1) q1 t1 h (by omega) (by omega) hh p1
   ·rw [if_pos rfl,idx_nat vs hi,qb,app_eq _ _ (by simp; omega),qb,qb]
    simp only
    rw [w64_succ (by omega)]
    exact ih K (i+1) q1 t1 _ (by omega) (by omega) (by simp; omega) p1
  ·rw [if_neg (by simp; omega)]
   exact ⟨p,s,h,rfl,hh,hp⟩
theorem query3_ok (a:Code) (p s:Int) (sc:List Int) (ha:a.length≤1048576) (hp:Pos a p) (hs:schOk sc=true):∃(q:Qu) (x y:Int),S.l3Query (a,p,s) sc=some (q,(a,x,y))∧okQ q∧Pos a x∧q.1.length≤2:=by
 obtain ⟨v1,q1,t1,e1,a1,b1,p1⟩:=below_ok a p s 3 ha hp (by omega) (by omega)
 obtain ⟨n,rfl⟩:∃n:Nat,v1=n:=⟨v1.toNat,by omega⟩
 obtain ⟨q2,t2,m,e2,h1,h2,p2⟩:=atoms_loop a ha sc hs (a,p,s) rfl [] (n+1) FUEL q1 t1 [] (by rw [FUEL_eq]; omega) (by simp; omega) (fun b hb=>by cases hb) p1
 simp only [qk,Nat.zero_add] at h1
 obtain ⟨vs,e3,h3,-⟩:=vars_S ([],m) (by show m.length≤1048576; omega) (fun b hb=>by have:=(h2 b hb).2.1; omega)
 obtain ⟨q4,t4,hd,e4,h4,p4⟩:=head_loop a ha vs (by omega) (a,p,s) rfl m vs.length FUEL 0 q2 t2 [] (by omega) (by rw [FUEL_eq]; omega) (by simp) p2
 have e4':S.l3Query_l3 vs (a,p,s) FUEL q2 t2 [] m 0=some (q4,t4,hd,m):=e4
 unfold S.l3Query
 rw [e1,qb]
 simp only
 rw [show w64 (1+(n:Int))=((n+1:Nat):Int) by rw [w64_sm (by omega) (by omega)]; omega,e2,qb]
 simp only
 rw [e3,qb,e4',qb]
 exact ⟨(hd,m),q4,t4,rfl,⟨by show hd.length≤10; omega,by show 1≤m.length; omega,by show m.length≤3; omega,h2⟩,p4,h4⟩
abbrev Bd:=List Int × List Int
abbrev Atm:=Int × List Int
def vrB (x:Int):Bool:=inR x 10 17
def entI (b:Bd) (t:Int):Int:=fidx (fun v=>decide (v=t)) b.1 0
def vOf (b:Bd) (t:Int):Int:=if vrB t then (if 0≤entI b t then b.2.getD (entI b t).toNat 0 else -1) else t
def okB (b:Bd):Prop:=b.1.length=b.2.length∧b.1.length≤1000
theorem isVar_S (x:Int):S.IsVar x=some (vrB x):=by unfold S.IsVar; rw [inS]; rfl
theorem isVar_M (x:Int):M.IsVar x=some (vrB x):=by unfold M.IsVar; rw [inM]; rfl
theorem entI_lt {b:Bd} {t:Int} (h:0≤entI b t):(entI b t).toNat<b.1.length∧((entI b t).toNat:Int)=entI b t:=by
 unfold entI at h ⊢
 rcases fidx_spec (fun v=>decide (v=t)) b.1 0 with ⟨h1,h2⟩ | ⟨j,hj,h1,h2,h3⟩
 ·omega
 ·rw [h1]; omega
theorem value_S (b:Bd) (t:Int) (h:okB b):S.ValueOf b t=some (vOf b t):=by
 unfold S.ValueOf vOf
 rw [isVar_S,qb]
 cases hv:vrB t
 ·rfl
 ·have hl:=h.2
  rw [find_loop (S.ValueOf_l1 b t) b.1 (fun v=>decide (v=t)) (fun j=>b.2.getD j.toNat 0) (by omega) (fun k=>by rw [S.ValueOf_l1,if_neg (by simp),qb,if_neg (by simp)]) (fun k i hi=>by
   have hi2:i<b.2.length:=by rw [←h.1]; exact hi
   rw [S.ValueOf_l1,if_pos (decide_eq_true (by omega)),qb,if_pos (decide_eq_true (by omega)),idx_nat b.1 hi,qb,idx_nat b.2 hi2,w64_succ (by omega)]
   simp [hi2])]
  unfold entI
  by_cases h0:0≤fidx (fun v=>decide (v=t)) b.1 0
  ·rw [if_pos h0]; simp [h0]
  ·rw [if_neg h0]; simp [h0]
theorem bound_S (b:Bd) (t:Int) (h:okB b):S.l4Bound b t=some (decide (0≤entI b t)):=by
 have hl:=h.2
 unfold S.l4Bound
 rw [find_loop (S.l4Bound_l1 b t) b.1 (fun v=>decide (v=t)) (fun _=>true) (by omega) (fun k=>by rw [S.l4Bound_l1,if_neg (by simp),qb,if_neg (by simp)]) (fun k i hi=>by
  have hi2:i<b.2.length:=by rw [←h.1]; exact hi
  rw [S.l4Bound_l1,if_pos (decide_eq_true (by omega)),qb,if_pos (decide_eq_true (by omega)),idx_nat b.1 hi,qb,w64_succ (by omega)])]
 unfold entI
 by_cases h0:0≤fidx (fun v=>decide (v=t)) b.1 0
 ·rw [if_pos h0]; simp [h0]
 ·rw [if_neg h0]; simp [h0]
theorem entry_M (b:Bd) (t:Int) (h:okB b):M.Binding_entry b t=some (entI b t):=by
 have hl:=h.2
 have e1:(if (b.2.length:Int)<(b.1.length:Int) then (b.2.length:Int) else (b.1.length:Int))=(b.1.length:Int):=by
  rw [if_neg (by have:=h.1; omega)]
 have e2:sub b.1 0 (b.1.length:Int)=some b.1:=by
  unfold sub
  rw [if_pos ⟨by omega,by omega,by omega⟩]; simp
 unfold M.Binding_entry
 rw [e1,e2,qb]
 unfold Slices.Index_Lint_int
 rw [find_loop (Slices.Index_Lint_int_l1 b.1 t) b.1 (fun v=>decide (v=t)) (fun j=>j) (by omega) (fun k=>by rw [Slices.Index_Lint_int_l1,if_neg (by simp)]) (fun k i hi=>by
  rw [Slices.Index_Lint_int_l1,if_pos (decide_eq_true (by omega)),idx_nat b.1 hi,qb,w64_succ (by omega)]
  by_cases c:b.1[i]=t
  ·rw [decide_eq_true c,decide_eq_true c.symm]
  ·rw [decide_eq_false c,decide_eq_false (fun h=>c h.symm)])]
 unfold entI
 rcases fidx_spec (fun v=>decide (v=t)) b.1 0 with ⟨h1,h2⟩ | ⟨j,hj,h1,h2,h3⟩
 ·rw [h1]; rfl
 ·rw [h1,if_pos (by omega)]; rfl
theorem value_M (b:Bd) (t:Int) (h:okB b):M.ValueOf b t=some (vOf b t):=by
 unfold M.ValueOf vOf
 rw [isVar_M,qb]
 cases hv:vrB t
 ·rfl
 ·rw [if_neg (by simp),show (b.1,b.2)=b from rfl,entry_M b t h,qb]
  by_cases h0:0≤entI b t
  ·obtain ⟨g1,g2⟩:=entI_lt h0
   have g3:(entI b t).toNat<b.2.length:=by rw [←h.1]; exact g1
   have g4:idx b.2 (entI b t)=some (b.2.getD (entI b t).toNat 0):=by
    have e:=idx_nat b.2 g3
    rw [g2] at e
    rw [e,List.getD_eq_getElem?_getD,qh g3]; rfl
   rw [if_neg (by simpa using h0),g4,if_pos rfl,if_pos h0]; rfl
  ·rw [if_pos (decide_eq_true (by omega)),if_pos rfl,if_neg h0]
def mtL:List Int→List Int→Bd→Option Bd
 | t::ts,x::xs,b=>if vrB t&&!decide (0≤entI b t) then mtL ts xs (b.1++[t],b.2++[x]) else if vOf b t=x then mtL ts xs b else none
 | _,_,b=>some b
theorem mtL_ok:∀(ts xs:List Int) (b b':Bd),b.1.length=b.2.length→mtL ts xs b=some b'→b'.1.length=b'.2.length∧b'.1.length≤b.1.length+ts.length
 | [],_,b,b',h,e=>by
  rw [mtL] at e
  ·cases e; exact ⟨h,by simp⟩
  ·intros; simp_all
 | t::ts,[],b,b',h,e=>by
  rw [mtL] at e
  ·cases e; exact ⟨h,by simp⟩
  ·intros; simp_all
 | t::ts,x::xs,b,b',h,e=>by
  rw [mtL] at e
  split at e
  ·have:=mtL_ok ts xs (b.1++[t],b.2++[x]) b' (by simp [h]) e
   simp only [qo,qf,qk] at this ⊢
   omega
  ·split at e
   ·have:=mtL_ok ts xs b b' h e
    simp only [qf]; omega
   ·cases e
theorem entI_last {b:Bd} {t x:Int} (h:okB b) (hn:¬0≤entI b t) (hv:vrB t=true):vOf (b.1++[t],b.2++[x]) t=x:=by
 have hno:∀v∈b.1,¬v=t:=by
  intro v hv' hc
  refine hn ?_
  unfold entI
  rw [fidx_nn,Qp]
  exact ⟨v,hv',decide_eq_true hc⟩
 have he:entI (b.1++[t],b.2++[x]) t=(b.1.length:Int):=by
  unfold entI
  rcases fidx_spec (fun v=>decide (v=t)) (b.1++[t]) 0 with ⟨h1,h2⟩ | ⟨j,hj,h1,h2,h3⟩
  ·simp at h2
  ·rw [h1]
   by_cases c:j<b.1.length
   ·rw [List.getElem_append_left c] at h2
    exact absurd (of_decide_eq_true h2) (hno _ (qd c))
   ·simp only [qo,qf,qk] at hj
    omega
 unfold vOf
 rw [hv,if_pos rfl,he,if_pos (by omega)]
 simp [h.1]
theorem match_l (a f:Atm) (hl:a.2.length=f.2.length) (ha:a.2.length≤100):∀(n K i:Nat) (b:Bd),i+n=a.2.length→n<K→b.1.length=b.2.length→b.1.length≤500+i →
  S.MatchAtom_l1 a f K b.1 b.2 [] [] (i:Int)=some (match mtL (a.2.drop i) (f.2.drop i) b with | some b'=>.inl (b'.1,b'.2,[],[]) | none=>.inr (([],[]),false)) ∧
  M.MatchAtom_l1 a f K b.1 b.2 [] [] (i:Int)=some (match mtL (a.2.drop i) (f.2.drop i) b with | some b'=>.inl (b'.1,b'.2,[],[]) | none=>.inr (([],[]),false)):=by
 intro n
 induction n with
 | zero =>
  intro K i b h1 hK hb hbl
  obtain ⟨K,rfl⟩:∃k,K=k+1:=⟨K-1,by omega⟩
  obtain rfl:i=a.2.length:=by omega
  rw [S.MatchAtom_l1,M.MatchAtom_l1,if_neg (by simp),if_neg (by simp),Qn]
  constructor <;> rfl
 | succ n ih =>
  intro K i b h1 hK hb hbl
  obtain ⟨K,rfl⟩:∃k,K=k+1:=⟨K-1,by omega⟩
  have hi:i<a.2.length:=by omega
  have hi2:i<f.2.length:=by omega
  have hok:okB b:=⟨hb,by omega⟩
  have s1:S.ValueOf (b.1,b.2) a.2[i]=some (vOf b a.2[i]):=value_S b _ hok
  have s2:S.l4Bound (b.1,b.2) a.2[i]=some (decide (0≤entI b a.2[i])):=bound_S b _ hok
  have m1:M.ValueOf (b.1,b.2) a.2[i]=some (vOf b a.2[i]):=value_M b _ hok
  have m2:M.Binding_entry (b.1,b.2) a.2[i]=some (entI b a.2[i]):=entry_M b _ hok
  have s3:S.l4Bind (b.1,b.2) a.2[i] f.2[i]=some (b.1++[a.2[i]],b.2++[f.2[i]]):=by
   unfold S.l4Bind
   rw [app_eq _ _ (by simp; omega),qb,app_eq _ _ (by simp; omega),qb,app_eq _ _ (by simp; omega),qb,app_eq _ _ (by simp; omega)]; rfl
  rw [S.MatchAtom_l1,M.MatchAtom_l1,if_pos (decide_eq_true (by omega)),if_pos (decide_eq_true (by omega)),idx_nat a.2 hi,idx_nat f.2 hi2,qe hi,qe hi2,mtL,w64_succ (by omega)]
  simp only [qb]
  rw [s1,isVar_S,isVar_M,s2,m2]
  simp only [qb]
  cases hv:vrB a.2[i]
  ·simp only [qc,if_false,Bool.false_and,qb]
   rw [m1]
   simp only [qb]
   by_cases hx:vOf b a.2[i]=f.2[i]
   ·rw [decide_eq_true hx,if_pos hx]
    simp only [qj,qc,if_false]
    exact ih K (i+1) b (by omega) (by omega) hb (by omega)
   ·rw [decide_eq_false hx,if_neg hx]
    constructor <;> rfl
  ·simp only [if_true,Qs,qb]
   by_cases he:0≤entI b a.2[i]
   ·rw [decide_eq_true he,decide_eq_false (by omega:¬entI b a.2[i]<0)]
    simp only [qj,qc,if_false,qb]
    rw [m1]
    simp only [qb]
    by_cases hx:vOf b a.2[i]=f.2[i]
    ·rw [decide_eq_true hx,if_pos hx]
     simp only [qj,qc,if_false]
     exact ih K (i+1) b (by omega) (by omega) hb (by omega)
    ·rw [decide_eq_false hx,if_neg hx]
     constructor <;> rfl
   ·have hlast:=entI_last (x:=f.2[i]) hok he hv
    have hok2:okB (b.1++[a.2[i]],b.2++[f.2[i]]):=⟨by simp [hb],by simp; omega⟩
    have m3:M.ValueOf (b.1++[a.2[i]],b.2++[f.2[i]]) a.2[i]=some f.2[i]:=by rw [value_M _ _ hok2,hlast]
    rw [decide_eq_false he,decide_eq_true (by omega:entI b a.2[i]<0)]
    simp only [qr,if_true,qb]
    rw [s3,app_eq _ _ (by simp; omega),app_eq _ _ (by simp; omega)]
    simp only [qb]
    rw [m3]
    simp only [qb,decide_true,qj,qc,if_false]
    exact ih K (i+1) (b.1++[a.2[i]],b.2++[f.2[i]]) (by omega) (by omega) (by simp [hb]) (by simp; omega)
def matA (b:Bd) (a f:Atm):Option Bd:=if a.1=f.1∧a.2.length=f.2.length∧b.1.length=b.2.length then mtL a.2 f.2 b else none
def resM (o:Option Bd):Bd × Bool:=match o with
 | some b=>(b,true)
 | none=>(([],[]),false)
theorem match_SM (b:Bd) (a f:Atm) (hb:b.1.length≤500) (hb2:b.2.length≤500) (ha:a.2.length≤100):S.MatchAtom b a f=some (resM (matA b a f))∧M.MatchAtom b a f=some (resM (matA b a f)):=by
 have hc:S.l4Copy (b.1,b.2)=some b:=by
  unfold S.l4Copy
  rw [app_eq _ _ (by simp; omega),qb,app_eq _ _ (by simp; omega)]; rfl
 have hm:M.copyBinding (b.1,b.2)=some b:=by
  unfold M.copyBinding
  rw [clone_eq b.1 (by omega),qb,clone_eq b.2 (by omega)]; rfl
 unfold S.MatchAtom M.MatchAtom matA
 rw [hc,hm]
 simp only [qb]
 by_cases h1:a.1=f.1
 ·by_cases h2:a.2.length=f.2.length
  ·by_cases h3:b.1.length=b.2.length
   ·obtain ⟨g1,g2⟩:=match_l a f h2 ha a.2.length FUEL 0 b (by omega) (by rw [FUEL_eq]; omega) h3 (by omega)
    have g1':S.MatchAtom_l1 a f FUEL b.1 b.2 [] [] 0=_:=g1
    have g2':M.MatchAtom_l1 a f FUEL b.1 b.2 [] [] 0=_:=g2
    simp only [h1,h2,h3,decide_true,qj,qc,if_false,if_true,true_and,qb]
    rw [g1',g2',Qf,Qf]
    cases mtL a.2 f.2 b with
    | none=>exact ⟨rfl,rfl⟩
    | some b'=>exact ⟨rfl,rfl⟩
   ·have h3':¬(b.1.length:Int)=(b.2.length:Int):=by omega
    simp only [h1,h2,h3,h3',decide_true,decide_false,qj,qr,qc,if_false,if_true,true_and,and_false,qb]
    exact ⟨rfl,rfl⟩
  ·have h2':¬(a.2.length:Int)=(f.2.length:Int):=by omega
   simp only [h1,h2,h2',decide_true,decide_false,qj,qr,qc,if_false,if_true,false_and,and_false,qb]
   exact ⟨rfl,rfl⟩
 ·simp only [h1,decide_false,qr,if_true,false_and,if_false]
  exact ⟨rfl,rfl⟩

def ext1 (a:Atm) (fs:List Atm) (b:Bd):List Bd:=fs.filterMap (matA b a)
def extL (a:Atm) (fs:List Atm) (bs:List Bd):List Bd:=bs.flatMap (ext1 a fs)
def okS (m:Nat) (bs:List Bd):Prop:=∀b∈bs,b.1.length=b.2.length∧b.1.length≤m
theorem ext1_len (a:Atm) (fs:List Atm) (b:Bd):(ext1 a fs b).length≤fs.length:=Qt ..
theorem extL_len (a:Atm) (fs:List Atm):∀bs:List Bd,(extL a fs bs).length≤bs.length*fs.length
 | []=>by simp [extL]
 | b::bs=>by
  have h1:=ext1_len a fs b
  have h2:=extL_len a fs bs
  have e:extL a fs (b::bs)=ext1 a fs b++extL a fs bs:=by simp [extL]
  rw [e,qo,qf,Nat.succ_mul]; omega
theorem extL_ok {m:Nat} {a:Atm} {fs:List Atm} {bs:List Bd} (h:okS m bs) (ha:a.2.length≤100):okS (m+100) (extL a fs bs):=by
 intro b' hb'
 obtain ⟨b,hb,h2⟩:=List.mem_flatMap.1 hb'
 obtain ⟨f,hf,h3⟩:=List.mem_filterMap.1 h2
 have hq:=h b hb
 unfold matA at h3
 split at h3
 ·have:=mtL_ok _ _ _ _ hq.1 h3
  omega
 ·cases h3
theorem take_fm {α β:Type} (g:α→Option β) (l:List α) {i:Nat} (hi:i<l.length):(l.take (i+1)).filterMap g=(l.take i).filterMap g++(match g l[i] with | some y=>[y] | none=>[]):=by
 rw [qm,qh hi,List.filterMap_append]
 congr 1
 simp only [Qw,List.filterMap_cons,List.filterMap_nil]
 cases g l[i] <;> rfl
theorem ext2_M (a:Atm) (fs:List Atm) (b:Bd) (acc:List Bd) (hb:b.1.length≤500) (hb2:b.2.length≤500) (ha:a.2.length≤100) (hn:acc.length+fs.length≤4294967296) :
  M.matchAll_l2 fs b a FUEL acc 0=some (acc++ext1 a fs b):=by
 obtain ⟨k,s,g1,rfl⟩:=loop_inv0 (fun k (x:List Bd) i=>M.matchAll_l2 fs b a k x i) (fun i x=>x=acc++(fs.take i).filterMap (matA b a)) fs.length (by omega) acc (by simp) (fun k i x hi hx=>by
  subst hx
  refine ⟨_,?_,rfl⟩
  have hl:((fs.take i).filterMap (matA b a)).length≤i:=qp (Qt ..) (by rw [qg]; omega)
  show M.matchAll_l2 fs b a (k+1) _ (i:Int)=M.matchAll_l2 fs b a k _ ((i+1:Nat):Int)
  have e:=(match_SM b a fs[i] hb hb2 ha).2
  have e':M.MatchAtom (b.1,b.2) (a.1,a.2) (fs[i].1,fs[i].2)=some (resM (matA b a fs[i])):=e
  rw [M.matchAll_l2,if_pos (by simpa using hi),idx_nat fs hi,qb,e',qb,w64_succ (by omega),take_fm _ _ hi]
  cases matA b a fs[i] with
  | none=>simp only [resM,qc,if_false,qb,Qd]
  | some y =>
   simp only [resM,if_true]
   rw [app_eq _ _ (by simp only [qo,qf,qk]; omega)]
   simp only [qb,qv])
 have g1':M.matchAll_l2 fs b a FUEL acc 0=_:=g1
 rw [g1',M.matchAll_l2,if_neg (by simp),ql]; rfl
theorem ext2_S (a:Atm) (fs:List Atm) (bs:List Bd) (x2:Int) (b:Bd) (hx:idx bs x2=some b) (acc:List Bd) (hb:b.1.length≤500) (hb2:b.2.length≤500) (ha:a.2.length≤100) (hn:acc.length+fs.length≤4294967296) :
  S.l4Extend_l2 fs bs x2 a FUEL acc 0=some (acc++ext1 a fs b):=by
 obtain ⟨k,s,g1,rfl⟩:=loop_inv0 (fun k (x:List Bd) i=>S.l4Extend_l2 fs bs x2 a k x i) (fun i x=>x=acc++(fs.take i).filterMap (matA b a)) fs.length (by omega) acc (by simp) (fun k i x hi hx2=>by
  subst hx2
  refine ⟨_,?_,rfl⟩
  have hl:((fs.take i).filterMap (matA b a)).length≤i:=qp (Qt ..) (by rw [qg]; omega)
  show S.l4Extend_l2 fs bs x2 a (k+1) _ (i:Int)=S.l4Extend_l2 fs bs x2 a k _ ((i+1:Nat):Int)
  have e:S.MatchAtom b (a.1,a.2) fs[i]=some (resM (matA b a fs[i])):=(match_SM b a fs[i] hb hb2 ha).1
  rw [S.l4Extend_l2,if_pos (by simpa using hi),hx,idx_nat fs hi,qb,qb,e,qb,w64_succ (by omega),take_fm _ _ hi]
  cases matA b a fs[i] with
  | none=>simp only [resM,qc,if_false,qb,Qd]
  | some y =>
   simp only [resM,if_true,qb]
   rw [app_eq _ _ (by simp only [qo,qf,qk]; omega)]
   simp only [qb,qv])
 have g1':S.l4Extend_l2 fs bs x2 a FUEL acc 0=_:=g1
 rw [g1',S.l4Extend_l2,if_neg (by simp),ql]; rfl
theorem take_fl {α β:Type} (g:α→List β) (l:List α) {i:Nat} (hi:i<l.length):(l.take (i+1)).flatMap g=(l.take i).flatMap g++g l[i]:=by
 rw [qm,qh hi,Qr]; simp
theorem ext_SM (a:Atm) (fs:List Atm) (bs:List Bd) {m:Nat} (h:okS m bs) (hm:m≤500) (ha:a.2.length≤100) (hf:fs.length≤192) (hbs:bs.length≤7077888) :
  S.l4Extend bs a fs=some (extL a fs bs)∧M.matchAll bs a fs=some (extL a fs bs):=by
 have hlen:∀i,i≤bs.length→(extL a fs (bs.take i)).length≤1358954496:=fun i hi=>by
  refine qp (extL_len a fs _) ?_
  exact qp (Nat.mul_le_mul (show (bs.take i).length≤7077888 by rw [qg]; omega) hf) (by decide)
 constructor
 ·obtain ⟨k,s,g1,rfl⟩:=loop_inv0 (fun k (x:List Bd) i=>S.l4Extend_l1 bs fs a k x i) (fun i x=>x=extL a fs (bs.take i)) bs.length (by omega) [] (by simp [extL]) (fun k i x hi hx=>by
   subst hx
   refine ⟨_,?_,rfl⟩
   have hl:=hlen i (by omega)
   obtain ⟨q1,q2⟩:=h bs[i] (qd hi)
   show S.l4Extend_l1 bs fs a (k+1) _ (i:Int)=S.l4Extend_l1 bs fs a k _ ((i+1:Nat):Int)
   rw [S.l4Extend_l1,if_pos (by simpa using hi),ext2_S a fs bs (i:Int) bs[i] (idx_nat bs hi) _ (by omega) (by omega) ha (by omega),qb,w64_succ (by omega),show extL a fs (bs.take (i+1))=extL a fs (bs.take i)++ext1 a fs bs[i] from take_fl _ _ hi])
  unfold S.l4Extend
  have g1':S.l4Extend_l1 bs fs a FUEL [] 0=_:=g1
  rw [g1',S.l4Extend_l1,if_neg (by simp),ql]; rfl
 ·obtain ⟨k,s,g1,rfl⟩:=loop_inv0 (fun k (x:List Bd) i=>M.matchAll_l1 bs fs a k x i) (fun i x=>x=extL a fs (bs.take i)) bs.length (by omega) [] (by simp [extL]) (fun k i x hi hx=>by
   subst hx
   refine ⟨_,?_,rfl⟩
   have hl:=hlen i (by omega)
   obtain ⟨q1,q2⟩:=h bs[i] (qd hi)
   show M.matchAll_l1 bs fs a (k+1) _ (i:Int)=M.matchAll_l1 bs fs a k _ ((i+1:Nat):Int)
   rw [M.matchAll_l1,if_pos (by simpa using hi),idx_nat bs hi,qb,ext2_M a fs bs[i] _ (by omega) (by omega) ha (by omega),qb,w64_succ (by omega),show extL a fs (bs.take (i+1))=extL a fs (bs.take i)++ext1 a fs bs[i] from take_fl _ _ hi])
  unfold M.matchAll
  have g1':M.matchAll_l1 bs fs a FUEL [] 0=_:=g1
  rw [g1',M.matchAll_l1,if_neg (by simp),ql]; rfl
def bdL (ats fs:List Atm):List Bd:=ats.foldl (fun bs a=>extL a fs bs) [([],[])]
theorem bdL_take (ats fs:List Atm) {i:Nat} (hi:i<ats.length):bdL (ats.take (i+1)) fs=extL ats[i] fs (bdL (ats.take i) fs):=by
 unfold bdL; rw [qm,qh hi,Qc]; rfl
theorem bdL_ok (ats fs:List Atm) (ha:∀a∈ats,a.2.length≤100) (hf:fs.length≤192):∀i,i≤ats.length→okS (100*i) (bdL (ats.take i) fs)∧(bdL (ats.take i) fs).length≤192 ^ i:=by
 intro i
 induction i with
 | zero=>intro _; exact ⟨fun b hb=>by simp [bdL] at hb; subst hb; simp,by simp [bdL]⟩
 | succ i ih =>
  intro hi
  obtain ⟨h1,h2⟩:=ih (by omega)
  rw [bdL_take ats fs hi]
  refine ⟨?_,?_⟩
  ·have:=extL_ok (fs:=fs) h1 (ha _ (qd hi))
   rw [show 100*(i+1)=100*i+100 by omega]; exact this
  ·rw [Nat.pow_succ]
   exact qp (extL_len _ _ _) (Nat.mul_le_mul h2 hf)
theorem bdL_7 (ats fs:List Atm) (h4:ats.length≤4) (ha:∀a∈ats,a.2.length≤100) (hf:fs.length≤192) {i:Nat} (hi:i<ats.length):(bdL (ats.take i) fs).length≤7077888 :=
 qp (bdL_ok ats fs ha hf i (by omega)).2 (qp (Nat.pow_le_pow_right (n:=192) (by omega) (show i≤3 by omega)) (by decide))
theorem bd_len (ats fs:List Atm) (h4:ats.length≤4) (ha:∀a∈ats,a.2.length≤100) (hf:fs.length≤192):(bdL ats fs).length≤1358954496:=by
 have:=(bdL_ok ats fs ha hf ats.length (Qx _)).2
 rw [ql] at this
 exact qp this (qp (Nat.pow_le_pow_right (n:=192) (by omega) h4) (by decide))
theorem bindings_SM (q:List Int × List Atm) (fs:List Atm) (h4:q.2.length≤4) (ha:∀a∈q.2,a.2.length≤100) (hf:fs.length≤192) :
  S.BindingsOf q fs=some (bdL q.2 fs)∧M.BindingsOf q fs=some (bdL q.2 fs):=by
 have hstep:∀i (hi:i<q.2.length),_:=fun i hi=>ext_SM q.2[i] fs (bdL (q.2.take i) fs) (bdL_ok q.2 fs ha hf i (by omega)).1 (by omega) (ha _ (qd hi)) hf (bdL_7 q.2 fs h4 ha hf hi)
 constructor
 ·obtain ⟨k,s,g1,rfl⟩:=loop_inv0 (fun k (x:List Bd) i=>S.BindingsOf_l1 q fs k x i) (fun i x=>x=bdL (q.2.take i) fs) q.2.length (by omega) [([],[])] (by simp [bdL]) (fun k i x hi hx=>by
   subst hx
   refine ⟨_,?_,rfl⟩
   show S.BindingsOf_l1 q fs (k+1) _ (i:Int)=S.BindingsOf_l1 q fs k _ ((i+1:Nat):Int)
   rw [S.BindingsOf_l1,if_pos (by simpa using hi),idx_nat q.2 hi,qb,(hstep i hi).1,qb,w64_succ (by omega),bdL_take _ _ hi])
  unfold S.BindingsOf
  have g1':S.BindingsOf_l1 q fs FUEL [([],[])] 0=_:=g1
  rw [g1',S.BindingsOf_l1,if_neg (by simp),ql]; rfl
 ·obtain ⟨k,s,g1,rfl⟩:=loop_inv0 (fun k (x:List Bd) i=>M.BindingsOf_l1 q fs k x i) (fun i x=>x=bdL (q.2.take i) fs) q.2.length (by omega) [([],[])] (by simp [bdL]) (fun k i x hi hx=>by
   subst hx
   refine ⟨_,?_,rfl⟩
   show M.BindingsOf_l1 q fs (k+1) _ (i:Int)=M.BindingsOf_l1 q fs k _ ((i+1:Nat):Int)
   have e:M.matchAll (bdL (q.2.take i) fs) (q.2[i].1,q.2[i].2) fs=_:=(hstep i hi).2
   rw [M.BindingsOf_l1,if_pos (by simpa using hi),idx_nat q.2 hi,qb,e,qb,w64_succ (by omega),bdL_take _ _ hi])
  unfold M.BindingsOf
  have g1':M.BindingsOf_l1 q fs FUEL [([],[])] 0=_:=g1
  rw [g1',M.BindingsOf_l1,if_neg (by simp),ql]; rfl

def tupL (hd:List Int) (b:Bd):Tup:=hd.map (vOf b)
def tupsL (hd:List Int) (bs:List Bd):List Tup:=bs.foldl (fun acc b=>addT acc (tupL hd b)) []
theorem tups_take (hd:List Int) (bs:List Bd) {i:Nat} (hi:i<bs.length):tupsL hd (bs.take (i+1))=addT (tupsL hd (bs.take i)) (tupL hd bs[i]):=by
 unfold tupsL; rw [qm,qh hi,Qc]; rfl
theorem tups_ok (hd:List Int) (bs:List Bd):(tupsL hd bs).length≤bs.length∧∀e∈tupsL hd bs,e.length=hd.length:=by
 have key:∀i,i≤bs.length→(tupsL hd (bs.take i)).length≤i∧∀e∈tupsL hd (bs.take i),e.length=hd.length:=by
  intro i
  induction i with
  | zero=>intro _; simp [tupsL]
  | succ i ih =>
   intro hi
   obtain ⟨h1,h2⟩:=ih (by omega)
   rw [tups_take hd bs hi]
   have:=addT_len (tupsL hd (bs.take i)) (tupL hd bs[i])
   refine ⟨by omega,fun e he=>?_⟩
   rcases mem_addT.1 he with h | rfl
   ·exact h2 e h
   ·simp [tupL]
 have:=key bs.length (Qx _)
 rwa [ql] at this
theorem tups_sm (hd:List Int) (bs:List Bd) (h1:hd.length≤8) (h2:bs.length≤1358954496):SmT (tupsL hd bs):=by
 obtain ⟨a,b⟩:=tups_ok hd bs
 exact ⟨by omega,fun e he=>by have:=b e he; omega⟩
theorem tuple_M (q:List Int × List Atm) (b:Bd) (hb:okB b) (hq:q.1.length≤8):M.TupleOf q b=some (tupL q.1 b):=by
 unfold M.TupleOf tupL
 rw [map_loop (M.TupleOf_l1 q b) q.1 (vOf b) (by omega) (fun k x=>by rw [M.TupleOf_l1,if_neg (by simp)]) (fun k x i hi hx=>by
  have e:M.ValueOf (b.1,b.2) q.1[i]=some (vOf b q.1[i]):=value_M b _ hb
  rw [M.TupleOf_l1,if_pos (decide_eq_true (by omega)),idx_nat q.1 hi,qb,e,qb,app_eq _ _ (by simp only [qf,qk]; omega),qb,w64_succ (by omega)])]
 rfl
theorem tuple_S (q:List Int × List Atm) (bs:List Bd) (x2:Int) (b:Bd) (hx2:idx bs x2=some b) (hb:okB b) (hq:q.1.length≤8):S.l4Tuples_l2 q bs x2 FUEL [] 0=some (tupL q.1 b):=by
 unfold tupL
 rw [map_loop (S.l4Tuples_l2 q bs x2) q.1 (vOf b) (by omega) (fun k x=>by rw [S.l4Tuples_l2,if_neg (by simp)]) (fun k x i hi hx=>by
  rw [S.l4Tuples_l2,if_pos (decide_eq_true (by omega)),hx2,qb,idx_nat q.1 hi,qb,value_S b _ hb,qb,app_eq _ _ (by simp only [qf,qk]; omega),qb,w64_succ (by omega)])]
theorem tuples_SM (q:List Int × List Atm) (bs:List Bd) (hb:okS 1000 bs) (hq:q.1.length≤8) (hn:bs.length≤1358954496) :
  S.l4Tuples q bs=some (tupsL q.1 bs)∧M.tuplesOf q bs=some (tupsL q.1 bs):=by
 have htl:∀b:Bd,(tupL q.1 b).length≤1048576:=fun b=>by unfold tupL; rw [List.length_map]; omega
 have hsm:∀i,SmT (tupsL q.1 (bs.take i)):=fun i=>tups_sm q.1 _ hq (by rw [qg]; omega)
 constructor
 ·obtain ⟨k,s,g1,rfl⟩:=loop_inv0 (fun k (x:List Tup) i=>S.l4Tuples_l1 bs q k x i) (fun i x=>x=tupsL q.1 (bs.take i)) bs.length (by omega) [] (by simp [tupsL]) (fun k i x hi hx=>by
   subst hx
   refine ⟨_,?_,rfl⟩
   show S.l4Tuples_l1 bs q (k+1) _ (i:Int)=S.l4Tuples_l1 bs q k _ ((i+1:Nat):Int)
   rw [S.l4Tuples_l1,if_pos (by simpa using hi),tuple_S q bs (i:Int) bs[i] (idx_nat bs hi) (hb _ (qd hi)) hq,qb,AddTuple_S _ _ (hsm i) (htl _),qb,w64_succ (by omega),tups_take _ _ hi])
  unfold S.l4Tuples
  have g1':S.l4Tuples_l1 bs q FUEL [] 0=_:=g1
  rw [g1',S.l4Tuples_l1,if_neg (by simp),ql]; rfl
 ·obtain ⟨k,s,g1,rfl⟩:=loop_inv0 (fun k (x:List Tup) i=>M.tuplesOf_l1 bs q k x i) (fun i x=>x=tupsL q.1 (bs.take i)) bs.length (by omega) [] (by simp [tupsL]) (fun k i x hi hx=>by
   subst hx
   refine ⟨_,?_,rfl⟩
   show M.tuplesOf_l1 bs q (k+1) _ (i:Int)=M.tuplesOf_l1 bs q k _ ((i+1:Nat):Int)
   have e:M.TupleOf (q.1,q.2) (bs[i].1,bs[i].2)=some (tupL q.1 bs[i]):=tuple_M q bs[i] (hb _ (qd hi)) hq
   rw [M.tuplesOf_l1,if_pos (by simpa using hi),idx_nat bs hi,qb,e,qb,addedTuple_M _ _ (hsm i) (htl _),qb,w64_succ (by omega),tups_take _ _ hi])
  unfold M.tuplesOf
  have g1':M.tuplesOf_l1 bs q FUEL [] 0=_:=g1
  rw [g1',M.tuplesOf_l1,if_neg (by simp),ql]; rfl

theorem addAll_len2:∀(l acc:List Fa),(addAll l acc).length≤acc.length+l.length
 | [],acc=>by simp [addAll]
 | e::l,acc=>by
  have h1:=addAll_len2 l (addF acc e)
  have h2:=addF_len acc e
  show (addAll l (addF acc e)).length≤_
  rw [qf]; omega
theorem unF_len2:∀(l:List To) (acc:List Fa),(∀t∈l,t.2.length≤24)→(unF l acc).length≤acc.length+24*l.length
 | [],acc,_=>by simp [unF]
 | t::l,acc,h=>by
  have h1:=unF_len2 l (addAll t.2 acc) (fun x hx=>h x (Qb _ hx))
  have h2:=addAll_len2 t.2 acc
  have h3:=h t (qu ..)
  show (unF l (addAll t.2 acc)).length≤_
  rw [qf]; omega
theorem facts_24 {s:List Int} {l:List Me} {t:To} (h:selfOk s l t=true):t.2.length≤24:=by
 unfold selfOk at h
 rw [qi] at h
 have h2:=(told_of h.1).2
 unfold factsOk at h2
 simp only [qi,decide_eq_true_iff] at h2
 omega
theorem un_192 {s:List Int} {l:List Me} {a:List To} {r:Tup} (h8:a.length≤8) (h:conX s l a r=true):(unW a r).length≤192:=by
 have h1:=unF_len2 (woF a r) [] (fun t ht=>facts_24 (con_self h t ht))
 have h2:=wo_len a r a.length
 unfold unW
 unfold woF at h1 ⊢
 simp only [qk] at h1
 omega
theorem rem_mem {s:List Int} {l:List Me} {a:List To} (h:(remR s l a).2=true):∃r,r∈(remR s l a).1∧a.length≤8∧conX s l a r=true:=by
 obtain ⟨r,hr⟩:=List.exists_mem_of_ne_nil _ (rem_ne h)
 refine ⟨r,hr,?_⟩
 unfold remR at hr
 cases hok:okR s l a
 ·rw [hok] at hr; cases hr
 ·rw [hok] at hr
  unfold okR at hok
  rw [qi,decide_eq_true_iff] at hok
  refine ⟨hok.2,?_⟩
  simp only [if_true] at hr
  cases hb:bestR s l a with
  | none=>rw [hb] at hr; cases hr
  | some b=>rw [hb] at hr; exact ((all_mem _ _ _ _ r).1 hr).2.2
theorem tru_192 (s:List Int) (l:List Me) (a:List To):(truR s l a).length≤192:=by
 unfold truR
 cases hr:(remR s l a).2
 ·simp
 ·obtain ⟨r,hm,h8,hc⟩:=rem_mem hr
  rw [if_pos rfl]
  refine qp ?_ (un_192 h8 hc)
  rw [unW_filter a r,←List.countP_eq_length_filter,←List.countP_eq_length_filter]
  refine List.countP_mono_left fun f _ hf=>?_
  unfold douF at hf
  rw [Bool.not_eq_true',List.any_eq_false] at hf
  have:=hf r hm
  simpa using this
def ansR (s:List Int) (l:List Me) (q:List Int × List Atm) (a:List To):List Tup:=if queryOk s q then tupsL q.1 (bdL q.2 (truR s l a)) else []
def SmB (l:List Tup):Prop:=l.length≤1358954496∧∀e∈l,e.length≤8
theorem ans_SM (q:List Int × List Atm) {s:List Int} (h:queryOk s q=true) (fs:List Atm) (hf:fs.length≤192) :
  S.BindingsOf q fs=some (bdL q.2 fs)∧M.BindingsOf q fs=some (bdL q.2 fs)∧S.l4Tuples q (bdL q.2 fs)=some (tupsL q.1 (bdL q.2 fs))∧M.tuplesOf q (bdL q.2 fs)=some (tupsL q.1 (bdL q.2 fs))∧SmB (tupsL q.1 (bdL q.2 fs)):=by
 unfold queryOk at h
 simp only [qi,decide_eq_true_iff,inR_iff] at h
 obtain ⟨-,h4,ha,h3,-⟩:=h
 have ha':∀x∈q.2,x.2.length≤100:=fun x hx=>qp (atom_len (List.all_eq_true.1 ha x hx)) (by omega)
 obtain ⟨b1,b2⟩:=bindings_SM q fs (by omega) ha' hf
 have hl:=bd_len q.2 fs (by omega) ha' hf
 have hok:=(bdL_ok q.2 fs ha' hf q.2.length (Qx _)).1
 rw [ql] at hok
 obtain ⟨t1,t2⟩:=tuples_SM q (bdL q.2 fs) (fun b hb=>by have:=hok b hb; exact ⟨this.1,by omega⟩) (by omega) hl
 refine ⟨b1,b2,t1,t2,?_,fun e he=>?_⟩
 ·exact qp (tups_ok q.1 _).1 hl
 ·have:=(tups_ok q.1 _).2 e he; omega
theorem same_TrustedAnswers (s:List Int) (l:List Me) (q:List Int × List Atm) (a:List To) (z1:SZ.sz s≤1048576) (z2:SZ.sz l≤1048576) (z3:SZ.sz q≤1048576) (z4:SZ.sz a≤1048576) :
  S.TrustedAnswers s l q a=some (ansR s l q a)∧M.TrustedAnswers s l q a=some (ansR s l q a)∧SmB (ansR s l q a):=by
 have s1:=sm_of z1
 have s3:=sm_of z3
 have hat:∀x∈q.2,x.2.length≤1048576:=fun x hx=>((sm_list s3.2).2 x hx).2.1
 have e1:S.IsQuery s (q.1,q.2)=some (queryOk s q):=query_S s q s1.1 s3.1.1 s3.2.1 hat
 have e2:M.IsQuery s (q.1,q.2)=some (queryOk s q):=query_M s q s1.1 s3.1.1 s3.2.1 hat
 have t1:=TrustedFacts_S s l a s1 (sm_of z2) z4
 have t2:M.TrustedFacts s l a=some (truR s l a):=by unfold M.TrustedFacts; rw [parted_M s l a s1 (sm_of z2) z4]; rfl
 unfold S.TrustedAnswers M.TrustedAnswers ansR
 rw [e1,e2]
 simp only [qb]
 cases hq:queryOk s q
 ·exact ⟨rfl,rfl,by simp [SmB]⟩
 ·obtain ⟨b1,b2,u1,u2,u3⟩:=ans_SM q hq (truR s l a) (tru_192 s l a)
  simp only [qj,qc,if_false,if_true]
  rw [t1,t2]
  simp only [qb]
  unfold M.answers
  refine ⟨?_,?_,u3⟩
  ·show (S.BindingsOf q (truR s l a)).bind _=_
   rw [b1,qb]
   show (S.l4Tuples q _).bind _=_
   rw [u1]; rfl
  ·show ((M.BindingsOf q (truR s l a)).bind _).bind _=_
   rw [b2,qb]
   show ((M.tuplesOf q _).bind _).bind _=_
   rw [u2]; rfl

def less1 (n m i:Nat):Nat:=m-2 ^ ((setF (m:Int) n).getD i 0).toNat
def chk1 (n:Nat):Bool:=(List.range (NN n)).all fun m=>(List.range n).all fun i=>decide (i<(setF (m:Int) n).length→(setF (m:Int) n).take i++(setF (m:Int) n).drop (i+1)=setF ((less1 n m i:Nat):Int) n)
theorem chk_all:∀n:Fin 9,chk1 n.val=true:=by decide +kernel
theorem less_set {n:Nat} (hn:n≤8) {b:Tup} (hb:b∈setsF n (NN n)) {i:Nat} (hi:i<b.length):b.take i++b.drop (i+1)∈setsF n (NN n):=by
 unfold setsF at hb ⊢
 obtain ⟨m,hm,rfl⟩:=List.mem_map.1 hb
 rw [List.mem_range] at hm
 have h1:chk1 n=true:=chk_all ⟨n,by omega⟩
 unfold chk1 at h1
 have hl:=set_len (m:Int) n
 have h2:=of_decide_eq_true (List.all_eq_true.1 (List.all_eq_true.1 h1 m (List.mem_range.2 hm)) i (List.mem_range.2 (by omega))) hi
 rw [h2]
 exact List.mem_map.2 ⟨less1 n m i,List.mem_range.2 (Nat.lt_of_le_of_lt (Nat.sub_le _ _) hm),rfl⟩
theorem best_min {s:List Int} {l:List Me} {a:List To} (h8:a.length≤8) {b:Tup} (h:bestR s l a=some b) {i:Nat} (hi:i<b.length):conX s l a (b.take i++b.drop (i+1))=false:=by
 have hs:=best_spec (conX s l a) a.length (NN a.length)
 unfold bestR at h
 rw [h] at hs
 have hm:=less_set h8 hs.1 hi
 cases hc:conX s l a (b.take i++b.drop (i+1)) with
 | false=>rfl
 | true =>
  have h3:=hs.2.2 _ hm hc
  unfold lessT at h3
  rw [decide_eq_true (by simp; omega)] at h3
  cases h3
theorem best_con {s:List Int} {l:List Me} {a:List To} {b:Tup} (h:bestR s l a=some b):conX s l a b=true:=by
 have hs:=best_spec (conX s l a) a.length (NN a.length)
 unfold bestR at h
 rw [h] at hs
 exact hs.2.1
theorem sub_lo (l:List Int) {i:Nat} (h:i≤l.length):sub l 0 (i:Int)=some (l.take i):=by
 unfold sub
 rw [if_pos ⟨by omega,by omega,by omega⟩]; simp
theorem sub_hi (l:List Int) {i:Nat} (h:i≤l.length):sub l (i:Int) (l.length:Int)=some (l.drop i):=by
 unfold sub
 rw [if_pos ⟨by omega,by omega,by omega⟩]; simp
theorem rep_l1 (s:List Int) (l:List Me) (a:List To) (hs:SZ.sm s) (hl:SZ.sm l) (ha:SZ.sm a) (h8:a.length≤8) (b:Tup) (o:Bool) (hb:bestR s l a=some b):Q.FnRepairs_l1 (b,o) (s,l,a) FUEL 0=some (.inl ()):=by
 have hbl:=best_len hb
 refine eq_loop (Q.FnRepairs_l1 (b,o) (s,l,a)) b.length (by omega) (fun k=>by rw [Q.FnRepairs_l1,if_neg (by simp)]) (fun k i hi=>?_)
 have hx:(b.take i++b.drop (i+1)).length≤1048576:=by simp; omega
 have hw:=Without_M a (b.take i++b.drop (i+1)) ha (sm_ints hx)
 have hc:=Cons_S s l (woF a (b.take i++b.drop (i+1))) hs hl (woF_sm a _ ha)
 have hm:=best_min h8 hb hi
 unfold conX at hm
 rw [Q.FnRepairs_l1,if_pos (decide_eq_true (by show (i:Int)<(b.length:Int); omega)),sub_lo b (by omega),w64_succ (by omega)]
 simp only [qb]
 rw [sub_hi b (by omega),qb,app_eq _ _ (by simp; omega),qb,List.nil_append,app_eq _ _ (by simp; omega),qb,hw,qb,hc,qb,hm,if_neg (by simp)]
theorem inside_S (t u:List Fa) (zt:SZ.sm t) (zu:SZ.sm u) (h:∀f∈t,hasF u f=true):Q.inside t u=some true:=by
 have h1:=zt.1
 unfold Q.inside
 rw [eq_loop (Q.inside_l1 t u) t.length (by omega) (fun k=>by rw [Q.inside_l1,if_neg (by simp)]) (fun k i hi=>by
  have hm:=qd hi
  have e:S.HasFact u (t[i].1,t[i].2)=some (hasF u t[i]):=HasFact_S u t[i] zu (zt.2 _ hm)
  rw [Q.inside_l1,if_pos (decide_eq_true (by omega)),idx_nat t hi,qb,e,qb,h _ hm,if_neg (by simp),w64_succ (by omega)])]
 rfl
theorem rep_l2 (s:List Int) (l:List Me) (a:List To) (z:SZ.sz a≤1048576) (all:List Tup) (hall:SmT all) (t:List Fa) (zt:SZ.sm t) (h:∀r∈all,∀f∈t,hasF (unW a r) f=true):Q.FnRepairs_l2 all (s,l,a) t FUEL 0=some (.inl ()):=by
 have h1:=hall.1
 refine eq_loop (Q.FnRepairs_l2 all (s,l,a) t) all.length (by omega) (fun k=>by rw [Q.FnRepairs_l2,if_neg (by simp)]) (fun k i hi=>?_)
 have hm:=qd hi
 have hr:=hall.2 _ hm
 have hw:=Without_S a all[i] (sm_of z) (sm_ints hr)
 have hu:=UnionOf_S (woF a all[i]) (wo_sz a _ z)
 have hin:=inside_S t (unW a all[i]) zt (unW_sm a _ z) (h _ hm)
 unfold unW at hin
 rw [Q.FnRepairs_l2,if_pos (decide_eq_true (by omega)),idx_nat all hi,qb]
 simp only
 rw [hw,qb,hu,qb,hin,qb,if_neg (by simp),w64_succ (by omega)]
theorem SameTuples_refl (l:List Tup) (h:l.length≤4294967296) (he:∀e∈l,e.length≤4294967296):S.SameTuples l l=some true:=by
 unfold S.SameTuples
 rw [if_neg (by simp),eq_loop (fun k i=>S.SameTuples_l1 l l k i) l.length h (fun k=>by rw [S.SameTuples_l1,if_neg (by simp)]) (fun k i hi=>by
  rw [S.SameTuples_l1,if_pos (decide_eq_true (by omega)),idx_nat l hi,qb,qb,l2Ints_S _ _ (he _ (qd hi)),qb,if_neg (by simp),w64_succ (by omega)])]
 rfl
def smlR (s:List Int) (l:List Me) (a:List To):Tup × Bool:=if okR s l a then ((bestR s l a).getD [],(bestR s l a).isSome) else ([],false)
theorem SmallestRemoval_M (s:List Int) (l:List Me) (a:List To) (hs:SZ.sm s) (hl:SZ.sm l) (ha:SZ.sm a):M.SmallestRemoval s l a=some (smlR s l a):=by
 unfold M.SmallestRemoval
 rw [removals_M s l a hs hl ha,qb]
 unfold remR smlR
 cases okR s l a
 ·rfl
 ·cases hb:bestR s l a with
  | none=>rfl
  | some b =>
   obtain ⟨t,ht⟩:=all_head (con:=conX s l a) hb
   simp only [if_true]
   unfold allR
   rw [ht]
   rfl
theorem drawRep_ok (a:Code) (ha:a.length≤1048576):∃(sc:List Int) (l:List Mf) (ts:List To),S.DrawSmallestRemoval a=some (sc,l,ts)∧sc.length≤4∧okMs l∧okTs ts:=by
 obtain ⟨t,e0⟩:=new_ok a ha
 obtain ⟨sc,l,f,ts,q1,t1,e1,h1,h2,h3,h4,p1⟩:=list28_ok a 0 t ha ⟨by omega,by omega⟩
 unfold S.DrawSmallestRemoval S.DrawFirstConflict
 rw [e0,qb]
 simp only
 rw [e1]
 exact ⟨sc,l,ts,rfl,h1,h2,h4⟩
theorem drawAns_ok (a:Code) (ha:a.length≤1048576):∃(sc:List Int) (l:List Mf) (q:Qu) (ts:List To),S.DrawTrustedAnswers a=some (sc,l,q,ts)∧sc.length≤4∧okMs l∧SZ.sz q≤1048576∧okTs ts:=by
 obtain ⟨t,e0⟩:=new_ok a ha
 obtain ⟨sc,l,f,ts,q1,t1,e1,h1,h2,h3,h4,p1⟩:=list28_ok a 0 t ha ⟨by omega,by omega⟩
 unfold S.DrawTrustedAnswers
 rw [e0,qb]
 simp only
 rw [e1,qb]
 simp only
 rw [IsSchema_S sc (by omega),qb]
 cases hs:schOk sc
 ·exact ⟨sc,l,([],[(0,[10])]),ts,rfl,h1,h2,by decide,h4⟩
 ·obtain ⟨q,x,y,e2,hq,-,-⟩:=query3_ok a q1 t1 sc ha p1 hs
  rw [if_pos rfl,e2]
  exact ⟨sc,l,q,ts,rfl,h1,h2,okQ_sz hq,h4⟩
theorem tru_in {s:List Int} {l:List Me} {a:List To}:∀r∈(remR s l a).1,∀f∈truR s l a,hasF (unW a r) f=true:=by
 intro r hr f hf
 unfold truR at hf
 cases h:(remR s l a).2
 ·rw [h] at hf; cases hf
 ·rw [h,if_pos rfl] at hf
  have h2:=(List.mem_filter.1 hf).2
  unfold douF at h2
  rw [Bool.not_eq_true',List.any_eq_false] at h2
  simpa using h2 r hr
theorem tru_dou {s:List Int} {l:List Me} {a:List To} (h:(remR s l a).2=true):(truR s l a).length+(douR s l a).length=(unF a []).length:=by
 unfold truR douR
 rw [h,if_pos rfl,if_pos rfl]
 generalize unF a []=u
 induction u with
 | nil=>rfl
 | cons x u ih =>
  rw [Qe,Qe,qf]
  cases douF a (remR s l a).1 x <;> simp <;> omega
theorem okMs_szR {l:List Mf} (h:okMs l):SZ.sz l≤1048576:=by
 have h1:=szs_leB 100 l fun m hm=>by
  have h3:SZ.sz m=SZ.sz m.1+(SZ.sz m.2.1+(SZ.sz m.2.2.1+(SZ.sz m.2.2.2.1+SZ.sz m.2.2.2.2))):=rfl
  have h4:SZ.sz m.2.1=m.2.1.length:=sz_flat (fun _=>rfl) _
  have h5:SZ.sz m.1=0∧SZ.sz m.2.2.1=0∧SZ.sz m.2.2.2.1=0∧SZ.sz m.2.2.2.2=0:=⟨rfl,rfl,rfl,rfl⟩
  have:=h.2 m hm
  omega
 have h2:=h.1
 have e1:SZ.sz l=l.length+szs l:=rfl
 omega
theorem sm_lenR {l:List Fa} (h:SZ.sm l):l.length≤4294967296∧∀f∈l,f.2.length≤4294967296:=⟨by have:=h.1; omega,fun f hf=>by have:=(h.2 f hf).2.1; omega⟩
theorem p_FnRepairs (a1:List UInt8) (h1:Rng.r a1):Q.FnRepairs a1=some true:=by
 unfold Q.FnRepairs Q.big
 rw [qb]
 by_cases hb:(1048576:Int)<(a1.length:Int)
 ·rw [if_pos (decide_eq_true hb)]
 ·rw [if_neg (by simpa using hb)]
  have ha:a1.length≤1048576:=by omega
  obtain ⟨s,l,t,e1,hs,hl,ht⟩:=drawRep_ok a1 ha
  obtain ⟨s2,l2,q2,t2,e2,hs2,hl2,hq2,ht2⟩:=drawAns_ok a1 ha
  have zs:SZ.sm s:=sm_ints (by omega)
  have zl:=okMs_sm hl
  have zt:=okTs_sm ht
  have yt:=okTs_sz ht
  have h8:t.length≤8:=by have:=ht.1; omega
  have hrs:=remR_sm s l t
  have zU:=union_len ht
  have zT:=tru_sm s l t yt
  have zD:=dou_sm s l t yt
  have nT:=sm_lenR zT
  have nD:=sm_lenR zD
  have eS:S.SmallestRemoval s l t=some (smlR s l t):=SmallestRemoval_S s l t zs zl zt
  have eA:M.AllRemovals s l t=some (remR s l t).1:=by unfold M.AllRemovals; rw [removals_M s l t zs zl zt]; rfl
  have eT:M.TrustedFacts s l t=some (truR s l t):=by unfold M.TrustedFacts; rw [parted_M s l t zs zl yt]; rfl
  have eD:M.DoubtedFacts s l t=some (douR s l t):=by unfold M.DoubtedFacts; rw [parted_M s l t zs zl yt]; rfl
  obtain ⟨g1,g2,g3⟩:=same_TrustedAnswers s2 l2 q2 t2 (by rw [show SZ.sz s2=s2.length from sz_flat (fun _=>rfl) _]; omega) (okMs_szR hl2) hq2 (okTs_sz ht2)
  have g1':S.TrustedAnswers s2 l2 (q2.1,q2.2) t2=some (ansR s2 l2 q2 t2):=g1
  have g2':M.TrustedAnswers s2 l2 (q2.1,q2.2) t2=some (ansR s2 l2 q2 t2):=g2
  have g4:=SameTuples_refl (ansR s2 l2 q2 t2) (by have:=g3.1; omega) (fun e he=>by have:=g3.2 e he; omega)
  have hlen:(smlR s l t).1.length≤8:=by
   unfold smlR
   split
   ·cases hq:bestR s l t with
    | none=>simp
    | some b=>have:=best_len hq; simp only [Qi]; omega
   ·simp
  have f1:=sameInts_refl (smlR s l t).1 (by omega)
  have f2:=SameTuples_refl (remR s l t).1 (by have:=hrs.1; omega) (fun e he=>by have:=hrs.2 e he; omega)
  rw [e1]
  simp only [qb]
  rw [SmallestRemoval_M s l t zs zl zt,eS,eA,AllRemovals_S s l t zs zl zt]
  simp only [qb,decide_true,qj,qc,if_false]
  rw [f1,f2,eT,eD,TrustedFacts_S s l t zs zl yt,DoubtedFacts_S s l t zs zl yt]
  simp only [qb,decide_true,qj,qc,if_false]
  rw [SameFacts_refl _ nT.1 nT.2,SameFacts_refl _ nD.1 nD.2]
  simp only [qb,qj,qc,if_false]
  have tail:((S.DrawTrustedAnswers a1).bind fun x35=>(M.TrustedAnswers x35.1 x35.2.1 (x35.2.2.1.1,x35.2.2.1.2) x35.2.2.2).bind fun x36=>(S.TrustedAnswers x35.1 x35.2.1 (x35.2.2.1.1,x35.2.2.1.2) x35.2.2.2).bind fun x37=>(S.SameTuples x36 x37).bind fun x38=>some x38)=some true:=by
   rw [e2,qb]
   simp only
   rw [g2',qb,g1',qb,g4]; rfl
  cases hq:smlR s l t with
  | mk w o =>
   rw [hq] at hlen f1
   cases o with
   | false =>
    simp only [qc,if_false,qb]
    exact tail
   | true =>
    unfold smlR at hq
    cases hok:okR s l t with
    | false=>rw [hok] at hq; cases hq
    | true =>
     rw [hok,if_pos rfl] at hq
     cases hbr:bestR s l t with
     | none=>rw [hbr] at hq; cases hq
     | some b =>
      rw [hbr] at hq
      obtain ⟨rfl,-⟩:=Prod.mk.inj hq
      simp only [Qi] at hlen f1 ⊢
      have hr2:=rem_yes hok
      have hall:(remR s l t).1=allR s l t b:=by unfold remR; rw [hok,if_pos rfl,hbr]
      obtain ⟨tl,htl⟩:=all_head (con:=conX s l t) hbr
      have hall2:(remR s l t).1=b::tl:=by rw [hall]; exact htl
      have hc:=best_con hbr
      have i1:=Without_M t b zt (sm_ints (by omega))
      have i2:=Cons_M s l (woF t b) zs zl (woF_sm t b zt)
      have i3:=rep_l1 s l t zs zl zt h8 b true hbr
      have i4:=rep_l2 s l t yt (remR s l t).1 hrs (truR s l t) zT tru_in
      have i5:=tru_dou hr2
      have hU:=zU.1
      unfold conX at hc
      simp only [if_true]
      rw [i1,qb,i2,qb,hc,i3,i4,hall2]
      have i6:idx (b::tl) 0=some b:=idx_nat (b::tl) (i:=0) (by simp)
      rw [i6,UnionOf_S t yt]
      simp only [qb,qj,qc,if_false]
      rw [if_neg (by simp; omega),f1]
      simp only [qb,qj,qc,if_false]
      rw [w64_sm (by omega) (by omega),show ((truR s l t).length:Int)+((douR s l t).length:Int)=((unF t []).length:Int) by omega]
      simp only [decide_true,qj,qc,if_false,qb]
      exact tail

end Go.Gx.Px
