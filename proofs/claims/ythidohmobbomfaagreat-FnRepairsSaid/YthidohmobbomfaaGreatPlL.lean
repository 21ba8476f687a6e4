/- Plain laws: ranges, appending, loops over lists that look for something. Conditions: none. -/
import Derived.Test.YthidohmobbomfaaGreatPl0
set_option linter.unusedVariables false
set_option linter.unusedSimpArgs false
namespace Go.Gx.Px
theorem sm_of {α:Type} [SZ α] {a:α} (h:SZ.sz a≤1048576):SZ.sm a:=SZ.of _ (Int.ofNat_le.2 h)
theorem fuel_succ:FUEL=4611686018427387903+1:=FUEL_eq
def inR (a b c:Int):Bool:=decide (b≤a)&&decide (a≤c)
theorem inR_iff {a b c:Int}:inR a b c=true↔b≤a∧a≤c:=by unfold inR; simp
theorem app_eq {α:Type} (a b:List α) (h:a.length+b.length≤4294967296):app a b=some (a++b):=by
 unfold app; rw [if_pos (by rw [LIM_eq]; exact h)]
theorem map_loop {α β:Type} (f:Nat→List β→Int→Option (List β)) (a:List α) (g:α→β) (hn:a.length≤4294967296) (he:∀k x,f (k+1) x (a.length:Int)=some x)
  (hs:∀k (x:List β) (i:Nat) (hi:i<a.length),x.length=i→f (k+1) x (i:Int)=f k (x++[g a[i]]) ((i+1:Nat):Int)):f FUEL [] 0=some (a.map g):=by
 obtain ⟨k,s',h1,rfl⟩:=loop_inv0 f (fun i x=>x=(a.take i).map g) a.length hn [] (by simp) (fun k i x hi hx=>⟨_,hs k x i hi (by rw [hx]; simp; omega),by
  rw [hx,List.take_add_one,List.getElem?_eq_getElem hi,List.map_append]; rfl⟩)
 rw [h1,he,List.take_length]
theorem flat_loop {α β:Type} (f:Nat→List β→Int→Option (List β)) (a:List α) (g:α→List β) (hn:a.length≤4294967296) (he:∀k x,f (k+1) x (a.length:Int)=some x)
  (hs:∀k (x:List β) (i:Nat) (hi:i<a.length),x=(a.take i).flatMap g→f (k+1) x (i:Int)=f k (x++g a[i]) ((i+1:Nat):Int)):f FUEL [] 0=some (a.flatMap g):=by
 obtain ⟨k,s',h1,rfl⟩:=loop_inv0 f (fun i x=>x=(a.take i).flatMap g) a.length hn [] (by simp) (fun k i x hi hx=>⟨_,hs k x i hi hx,by
  rw [hx,List.take_add_one,List.getElem?_eq_getElem hi,List.flatMap_append]; simp⟩)
 rw [h1,he,List.take_length]
theorem all_loop {α β:Type} (f:Nat→Int→Option (Sum Unit β)) (a:List α) (q:α→Bool) (b:β) (hn:a.length≤4294967296) (he:∀k,f (k+1) (a.length:Int)=some (.inl ()))
  (hs:∀k (i:Nat) (hi:i<a.length),f (k+1) (i:Int)=if q a[i] then f k ((i+1:Nat):Int) else some (.inr b)):f FUEL 0=some (if a.all q then .inl () else .inr b):=by
 have key:∀(K i:Nat),i≤a.length→a.length<i+K→f K (i:Int)=some (if (a.drop i).all q then .inl () else .inr b):=by
  intro K
  induction K with
  | zero=>intro i h1 h2; omega
  | succ K ih =>
   intro i h1 h2
   by_cases hi:i<a.length
   ·rw [hs K i hi,List.drop_eq_getElem_cons hi,List.all_cons]
    cases hq:q a[i]
    ·simp
    ·simp only [if_true,Bool.true_and]
     exact ih (i+1) (by omega) (by omega)
   ·obtain rfl:i=a.length:=by omega
    rw [he]; simp
 have:=key FUEL 0 (by omega) (by rw [FUEL_eq]; omega)
 simpa using this
def fidx {α:Type} (q:α→Bool):List α→Nat→Int
 | [],_=>-1
 | a::l,i=>if q a then (i:Int) else fidx q l (i+1)
theorem fidx_nn {α:Type} (q:α→Bool):∀(l:List α) (i:Nat),(0≤fidx q l i↔l.any q=true)
 | [],i=>by simp [fidx]
 | a::l,i=>by
  unfold fidx
  cases h:q a
  ·simp [fidx_nn q l (i+1),h]
  ·simp [h]
theorem fidx_spec {α:Type} (q:α→Bool):∀(l:List α) (i:Nat),(fidx q l i=-1∧l.any q=false)∨∃(j:Nat) (hj:j<l.length),fidx q l i=((i+j:Nat):Int)∧q l[j]=true∧∀k (hk:k<j),q (l[k]'(by omega))=false
 | [],i=>.inl ⟨rfl,rfl⟩
 | a::l,i=>by
  unfold fidx
  cases h:q a
  ·rcases fidx_spec q l (i+1) with ⟨h1,h2⟩ | ⟨j,hj,h1,h2,h3⟩
   ·exact .inl ⟨by simpa using h1,by simp [h,h2]⟩
   ·refine .inr ⟨j+1,by simpa using hj,?_,by simpa using h2,fun k hk=>?_⟩
    ·simp only [Bool.false_eq_true,if_false]; rw [h1]; congr 1; omega
    ·cases k with
     | zero=>exact h
     | succ k=>simpa using h3 k (by omega)
  ·exact .inr ⟨0,by simp,by simp,h,fun k hk=>by omega⟩
theorem index_loop {α:Type} (f:Nat→Int→Option (Sum Unit Int)) (a:List α) (q:α→Bool) (hn:a.length≤4294967296) (he:∀k,f (k+1) (a.length:Int)=some (.inl ()))
  (hs:∀k (i:Nat) (hi:i<a.length),f (k+1) (i:Int)=if q a[i] then some (.inr (i:Int)) else f k ((i+1:Nat):Int)) :
  f FUEL 0=some (if a.any q then .inr (fidx q a 0) else .inl ()):=by
 have key:∀(K i:Nat),i≤a.length→a.length<i+K→f K (i:Int)=some (if (a.drop i).any q then .inr (fidx q (a.drop i) i) else .inl ()):=by
  intro K
  induction K with
  | zero=>intro i h1 h2; omega
  | succ K ih =>
   intro i h1 h2
   by_cases hi:i<a.length
   ·rw [hs K i hi,List.drop_eq_getElem_cons hi,List.any_cons]
    unfold fidx
    cases hq:q a[i]
    ·simp only [Bool.false_or,Bool.false_eq_true,if_false]
     exact ih (i+1) (by omega) (by omega)
    ·simp
   ·obtain rfl:i=a.length:=by omega
    rw [he]; simp
 have:=key FUEL 0 (by omega) (by rw [FUEL_eq]; omega)
 simpa using this
end Go.Gx.Px
