/- Plain laws: loops over lists, marks and what is held of them. Conditions: none. -/
import Derived.Test.YthidohmobbomfaaGreatPure
import Derived.Test.YthidohmobbomfaaGreatGxG
set_option linter.unusedVariables false
set_option linter.unusedSimpArgs false
namespace Go.Gx.Px
open List renaming drop_eq_getElem_cons→qb,getElem?_eq_getElem→qc,take_add_one→qd,take_length→qe,length_cons→qf

theorem idx_nat {α:Type} (l:List α) {i:Nat} (h:i<l.length):idx l (i:Int)=some l[i]:=by
 unfold idx; rw [if_pos (by omega),Int.toNat_natCast,qc h]
theorem idx_set {α:Type} (l:List α) {i:Nat} (a:α) (h:i<l.length):idx (l.set i a) (i:Int)=some a:=by
 rw [idx_nat _ (by simpa using h)]; simp
theorem w64_succ {i:Nat} (h:i<4611686018427387904):w64 ((i:Int)+1)=((i+1:Nat):Int):=by
 rw [w64_id (by omega) (by omega)]; rfl
theorem w64_sm {n:Int} (h:-4611686018427387904≤n) (h':n≤4611686018427387904):w64 n=n:=w64_id (by omega) (by omega)

theorem loop_inv {σ R:Type} (f:Nat→σ→Int→R) (inv:Nat→σ→Prop) (n:Nat) (hs:∀k i s,i<n→inv i s→∃s',f (k+1) s (i:Int)=f k s' ((i+1:Nat):Int)∧inv (i+1) s') :
  ∀(K i:Nat) (s:σ),i≤n→n<i+K→inv i s→∃k s',f K s (i:Int)=f (k+1) s' (n:Int)∧inv n s'
 | 0,i,s,h1,h2,_=>by omega
 | K+1,i,s,h1,h2,h3=>by
  by_cases hi:i<n
  ·obtain ⟨s',h4,h5⟩:=hs K i s hi h3
   obtain ⟨k,s'',h6,h7⟩:=loop_inv f inv n hs K (i+1) s' (by omega) (by omega) h5
   exact ⟨k,s'',h4.trans h6,h7⟩
  ·obtain rfl:i=n:=by omega
   exact ⟨K,s,rfl,h3⟩
theorem loop_inv0 {σ R:Type} (f:Nat→σ→Int→R) (inv:Nat→σ→Prop) (n:Nat) (hn:n≤4294967296) (s:σ) (h0:inv 0 s) (hs:∀k i s,i<n→inv i s→∃s',f (k+1) s (i:Int)=f k s' ((i+1:Nat):Int)∧inv (i+1) s') :
  ∃k s',f FUEL s 0=f (k+1) s' (n:Int)∧inv n s' :=
 loop_inv f inv n hs FUEL 0 s (by omega) (by rw [FUEL_eq]; omega) h0

theorem to_loop {α:Type} (f:Nat→List α→Int→Option (List α)) (a out:List α) (hl:out.length=a.length) (hn:a.length≤4294967296) (he:∀k x,f (k+1) x (a.length:Int)=some x)
  (hs:∀k (x:List α) (i:Nat) (hi:i<a.length),x.length=a.length→f (k+1) x (i:Int)=f k (x.set i a[i]) ((i+1:Nat):Int)):f FUEL out 0=some a:=by
 obtain ⟨k,s',h1,h2,h3⟩:=loop_inv0 f (fun i x=>x.length=a.length∧x.take i=a.take i) a.length hn out ⟨hl,by simp⟩ (fun k i x hi ⟨h1,h2⟩=>⟨_,hs k x i hi h1,by simpa using h1,by
  rw [qd,qd,List.take_set_of_le (Nat.le_refl i),h2]
  simp [h1,hi]⟩)
 rw [h1,he]
 rw [qe,List.take_of_length_le (by omega)] at h3
 rw [h3]
theorem eq_loop (f:Nat→Int→Option (Sum Unit Bool)) (n:Nat) (hn:n≤4294967296) (he:∀k,f (k+1) (n:Int)=some (.inl ()))
  (hs:∀k (i:Nat),i<n→f (k+1) (i:Int)=f k ((i+1:Nat):Int)):f FUEL 0=some (.inl ()):=by
 obtain ⟨k,s',h1,h2⟩:=loop_inv0 (fun k (_:Unit) i=>f k i) (fun _ _=>True) n hn () trivial (fun k i x hi _=>⟨(),hs k i hi,trivial⟩)
 rw [h1,he]

class SZ (α:Type) where
 sz:α→Nat
 sm:α→Prop
 of:∀a,(sz a:Int)≤1048576→sm a
instance:SZ Int:=⟨fun _=>0,fun _=>True,fun _ _=>trivial⟩
instance:SZ Bool:=⟨fun _=>0,fun _=>True,fun _ _=>trivial⟩
instance:SZ Unit:=⟨fun _=>0,fun _=>True,fun _ _=>trivial⟩
instance:SZ Str:=⟨fun s=>List.length s,fun s=>List.length s≤1048576,fun s h=>by exact Int.ofNat_le.1 h⟩
instance {α β:Type} [SZ α] [SZ β]:SZ (α × β):=⟨fun a=>SZ.sz a.1+SZ.sz a.2,fun a=>SZ.sm a.1∧SZ.sm a.2,fun a h=>⟨SZ.of _ (by omega),SZ.of _ (by omega)⟩⟩
def szs {α:Type} [SZ α]:List α→Nat
 | []=>0
 | a::l=>SZ.sz a+szs l
theorem szs_le {α:Type} [SZ α]:∀{l:List α} {a:α},a∈l→SZ.sz a≤szs l
 | b::l,a,h=>by
  rcases List.mem_cons.1 h with rfl | h
  ·simp only [szs]; omega
  ·have:=szs_le h; simp only [szs]; omega
instance {α:Type} [SZ α]:SZ (List α):=⟨fun l=>l.length+szs l,fun l=>l.length≤1048576∧∀e∈l,SZ.sm e,fun l h=>⟨by omega,fun e he=>SZ.of e (by have:=szs_le he; omega)⟩⟩
theorem szs_flat {α:Type} [SZ α] (h:∀e:α,SZ.sz e=0) (l:List α):szs l=0:=by
 induction l with
 | nil=>rfl
 | cons a l ih=>simp only [szs,ih,h]
theorem sz_flat {α:Type} [SZ α] (h:∀e:α,SZ.sz e=0) (l:List α):SZ.sz l=l.length:=by
 show l.length+szs l=_; rw [szs_flat h]; omega
theorem sm_list {α:Type} [SZ α] {l:List α} (h:SZ.sm l):l.length≤1048576∧∀e∈l,SZ.sm e:=h
theorem sm_nil {α:Type} [SZ α]:SZ.sm ([]:List α):=⟨by simp,by simp⟩
theorem sm_ints {l:List Int} (h:l.length≤1048576):SZ.sm l:=⟨h,fun _ _=>trivial⟩
def left (n:Nat) (x:Int):Int:=if (n:Int)≤x then x-n else -1
theorem left_neg {n:Nat} {x:Int} (hx:0≤x):left n x<0↔¬(n:Int)≤x:=by unfold left; split <;> omega
theorem szs_drop {α:Type} [SZ α] (l:List α) (i:Nat) (h:i<l.length):szs (l.drop i)=SZ.sz l[i]+szs (l.drop (i+1)):=by
 rw [qb h]; rfl
theorem sz_loop {α:Type} [SZ α] (f:Nat→Int→Int→Option (Sum Int Int)) (a:List α) (hn:a.length≤4294967296) (he:∀k x,f (k+1) x (a.length:Int)=some (.inl x))
  (hs:∀k (x:Int) (i:Nat) (hi:i<a.length),0≤x→x≤1048576→f (k+1) x (i:Int)=if (SZ.sz a[i]:Int)≤x then f k (x-SZ.sz a[i]) ((i+1:Nat):Int) else some (.inr (-1))) :
  ∀(K i:Nat) (x:Int),i≤a.length→a.length<i+K→0≤x→x≤1048576→f K x (i:Int)=if (szs (a.drop i):Int)≤x then some (.inl (x-szs (a.drop i))) else some (.inr (-1))
 | 0,i,x,h1,h2,_,_=>by omega
 | K+1,i,x,h1,h2,h3,h4=>by
  by_cases hi:i<a.length
  ·rw [hs K x i hi h3 h4,szs_drop a i hi]
   by_cases h5:(SZ.sz a[i]:Int)≤x
   ·rw [if_pos h5,sz_loop f a hn he hs K (i+1) _ (by omega) (by omega) (by omega) (by omega)]
    by_cases h6:(szs (a.drop (i+1)):Int)≤x-SZ.sz a[i]
    ·rw [if_pos h6,if_pos (by omega)]; congr 2; omega
    ·rw [if_neg h6,if_neg (by omega)]
   ·rw [if_neg h5,if_neg (by omega)]
  ·obtain rfl:i=a.length:=by omega
   rw [he,List.drop_length,if_pos (by simp [szs]; exact h3)]
   simp [szs]

class MT (α:Type) [SZ α] where
 mq:α→Int→α
 msz:α→Nat
 bd:Nat
 le:∀a,SZ.sm a→msz a≤bd
instance:MT Int:=⟨fun _ c=>c,fun _=>1,1,fun _ _=>Nat.le_refl _⟩
def mkL {α:Type} [SZ α] [MT α]:List α→Int→List α
 | [],_=>[]
 | a::l,c=>MT.mq a c::mkL l (c+MT.msz a)
def mszL {α:Type} [SZ α] [MT α]:List α→Nat
 | []=>0
 | a::l=>MT.msz a+mszL l
section
variable {α:Type} [SZ α] [MT α]
theorem mkL_length:∀(a:List α) (c:Int),(mkL a c).length=a.length
 | [],_=>rfl
 | a::l,c=>by simp only [mkL,qf,mkL_length l]
theorem mszL_append:∀(a b:List α),mszL (a++b)=mszL a+mszL b
 | [],b=>by simp [mszL]
 | x::a,b=>by simp only [List.cons_append,mszL,mszL_append a b]; omega
theorem mkL_append:∀(a b:List α) (c:Int),mkL (a++b) c=mkL a c++mkL b (c+mszL a)
 | [],b,c=>by simp [mkL,mszL]
 | x::a,b,c=>by simp only [List.cons_append,mkL,mszL,mkL_append a b,List.cons.injEq,true_and]; congr 2; omega
theorem mszL_take (a:List α) {i:Nat} (h:i<a.length):mszL (a.take (i+1))=mszL (a.take i)+MT.msz a[i]:=by
 rw [qd,qc h,mszL_append]; simp [mszL]
theorem mkL_take (a:List α) (c:Int) {i:Nat} (h:i<a.length):mkL (a.take (i+1)) c=mkL (a.take i) c++[MT.mq a[i] (c+mszL (a.take i))]:=by
 rw [qd,qc h,mkL_append]; simp [mkL]
theorem mszL_le (a:List α) (i:Nat):mszL (a.take i)≤mszL a:=by
 conv=>rhs; rw [←List.take_append_drop i a,mszL_append]
 omega
theorem mszL_part (a:List α) {i:Nat} (h:i<a.length):mszL (a.take i)+MT.msz a[i]≤mszL a:=by
 rw [←mszL_take a h]; exact mszL_le a _
theorem mkL_get (a:List α) (c:Int) {i:Nat} (h:i<a.length):(mkL a c)[i]'(by rw [mkL_length]; exact h)=MT.mq a[i] (c+mszL (a.take i)):=by
 have e:mkL a c=mkL (a.take i) c++mkL (a.drop i) (c+mszL (a.take i)):=by rw [←mkL_append,List.take_append_drop]
 have hl:(mkL (a.take i) c).length=i:=by rw [mkL_length,List.length_take]; omega
 simp only [e]
 rw [List.getElem_append_right (by omega)]
 have e2:mkL (a.drop i) (c+mszL (a.take i))=MT.mq a[i] (c+mszL (a.take i))::mkL (a.drop (i+1)) (c+mszL (a.take i)+MT.msz a[i]):=by
  rw [qb h]; rfl
 simp [e2,hl]
theorem mark_loop (f:Nat→List α→Int→Int→Option (List α × Int)) (a:List α) (c:Int) (hn:a.length≤4294967296) (h0:0≤c) (hb:c+mszL a≤2305843009213693952)
  (he:∀k (x:List α) (c:Int),f (k+1) x c (x.length:Int)=some (x,c))
  (hs:∀k (x:List α) (c:Int) (i:Nat) (hi:i<x.length) (hx:x[i]∈a),i<4294967296→0≤c→c+MT.msz x[i]≤2305843009213693952→f (k+1) x c (i:Int)=f k (x.set i (MT.mq x[i] c)) (c+MT.msz x[i]) ((i+1:Nat):Int)) :
  f FUEL a c 0=some (mkL a c,c+mszL a):=by
 obtain ⟨k,s',h1,rfl⟩:=loop_inv0 (fun k (s:List α × Int) i=>f k s.1 s.2 i) (fun i s=>s=(mkL (a.take i) c++a.drop i,c+mszL (a.take i))) a.length hn (a,c) (by simp [mkL,mszL]) (fun k i s hi hse=>by
  subst hse
  have hl:(mkL (a.take i) c).length=i:=by rw [mkL_length,List.length_take]; omega
  have hlt:i<(mkL (a.take i) c++a.drop i).length:=by rw [List.length_append,hl,List.length_drop]; omega
  have hget:(mkL (a.take i) c++a.drop i)[i]=a[i]:=by rw [List.getElem_append_right (by omega)]; simp [hl]
  have hpart:=mszL_part a hi
  have hstep:=hs k (mkL (a.take i) c++a.drop i) (c+mszL (a.take i)) i hlt (by rw [hget]; exact List.getElem_mem _) (by omega) (by omega) (by rw [hget]; omega)
  rw [hget] at hstep
  refine ⟨((mkL (a.take i) c++a.drop i).set i (MT.mq a[i] (c+mszL (a.take i))),c+mszL (a.take i)+MT.msz a[i]),hstep,?_⟩
  rw [mkL_take a c hi,mszL_take a hi]
  refine Prod.ext ?_ ?_
  ·show (mkL (a.take i) c++a.drop i).set i _=_
   rw [List.set_append_right _ _ (by omega),hl,Nat.sub_self,show ∀y,(a.drop i).set 0 y=y::a.drop (i+1) from fun y=>by rw [qb hi]; rfl]
   simp
  ·show c+(mszL (a.take i):Int)+(MT.msz a[i]:Int)=c+((mszL (a.take i)+MT.msz a[i]:Nat):Int); omega)
 rw [show f FUEL a c 0=f FUEL (a,c).1 (a,c).2 0 from rfl,h1]
 simp only [qe,List.drop_length,List.append_nil]
 rw [show (a.length:Int)=((mkL a c).length:Int) by rw [mkL_length],he]
theorem held_loop (f:Nat→Int→Int→Option (Sum Int Int)) (a:List α) (c:Int) (hn:a.length≤4294967296) (h0:0≤c) (hb:c+mszL a≤2305843009213693952)
  (he:∀k (c:Int),f (k+1) c (a.length:Int)=some (.inl c))
  (hs:∀k (c':Int) (i:Nat) (hi:i<a.length),idx (mkL a c) (i:Int)=some (MT.mq a[i] c')→0≤c'→c'+MT.msz a[i]≤2305843009213693952→f (k+1) c' (i:Int)=f k (c'+MT.msz a[i]) ((i+1:Nat):Int)) :
  f FUEL c 0=some (.inl (c+mszL a)):=by
 obtain ⟨k,s',h1,rfl⟩:=loop_inv0 (fun k (s:Int) i=>f k s i) (fun i s=>s=c+mszL (a.take i)) a.length hn c (by simp [mszL]) (fun k i s hi hse=>by
  subst hse
  have hpart:=mszL_part a hi
  refine ⟨_,hs k _ i hi (by rw [idx_nat _ (by rw [mkL_length]; exact hi),mkL_get a c hi]) (by omega) (by omega),?_⟩
  rw [mszL_take a hi]
  show c+(mszL (a.take i):Int)+(MT.msz a[i]:Int)=c+((mszL (a.take i)+MT.msz a[i]:Nat):Int); omega)
 rw [h1,he,qe]
end
theorem mszL_bd {α:Type} [SZ α] [MT α] {l:List α} (h:SZ.sm l):mszL l≤1048576*MT.bd α:=by
 have key:∀(l:List α),(∀e∈l,SZ.sm e)→mszL l≤l.length*MT.bd α:=by
  intro l
  induction l with
  | nil=>intro _; simp [mszL]
  | cons a l ih =>
   intro h
   have h1:=ih (fun e he=>h e (List.mem_cons_of_mem _ he))
   have h2:=MT.le a (h a (List.mem_cons_self ..))
   simp only [mszL,qf,Nat.succ_mul]; omega
 exact Nat.le_trans (key l (sm_list h).2) (Nat.mul_le_mul_right _ (sm_list h).1)
theorem mszL_int (l:List Int):mszL l=l.length:=by
 induction l with
 | nil=>rfl
 | cons a l ih=>simp only [mszL,ih,qf]; show 1+l.length=_; omega
end Go.Gx.Px
