/- Plain laws: loops over lists, marks and what is held of them. Conditions: none. -/
import Derived.Test.YthidohmobbomfaaGreatPure
import Derived.Test.YthidohmobbomfaaGreatGxG
set_option linter.unusedVariables false
set_option linter.unusedSimpArgs false
namespace Go.Gx.Px

theorem idx_nat {α:Type} (l:List α) {i:Nat} (h:i<l.length):idx l (i:Int)=some l[i]:=by
 unfold idx; rw [if_pos (by omega),Int.toNat_natCast,List.getElem?_eq_getElem h]
theorem w64_succ {i:Nat} (h:i<4611686018427387904):w64 ((i:Int)+1)=((i+1:Nat):Int):=by
 rw [w64_id (by omega) (by omega)]; rfl
theorem w64_sm {n:Int} (h:-4611686018427387904≤n) (h':n≤4611686018427387904):w64 n=n:=w64_id (by omega) (by omega)

theorem loop_inv {σ R:Type} (f:Nat→σ→Int→R) (inv:Nat→σ→Prop) (n:Nat) (hs:∀k i s,i<n→inv i s→∃s',f (k+1) s (i:Int)=f k s' ((i+1:Nat):Int)∧inv (i+1) s') :
  ∀(K i:Nat) (s:σ),i≤n→n<i+K→inv i s→∃k s',f K s (i:Int)=f (k+1) s' (n:Int)∧inv n s'
 | 0,i,s,h1,h2,_=>by omega
 | K+1,i,s,h1,h2,h3=>by
  by_cases hi:i<n
  ·obtain ⟨s',h4,h5⟩:=hs K i s hi h3
   obtain ⟨k,s'',h6,h7⟩:=loop_inv f inv n hs K (i+1) s' (by omega) (by omega) h5
   exact ⟨k,s'',h4.trans h6,h7⟩
  ·obtain rfl:i=n:=by omega
   exact ⟨K,s,rfl,h3⟩
theorem loop_inv0 {σ R:Type} (f:Nat→σ→Int→R) (inv:Nat→σ→Prop) (n:Nat) (hn:n≤4294967296) (s:σ) (h0:inv 0 s) (hs:∀k i s,i<n→inv i s→∃s',f (k+1) s (i:Int)=f k s' ((i+1:Nat):Int)∧inv (i+1) s') :
  ∃k s',f FUEL s 0=f (k+1) s' (n:Int)∧inv n s' :=
 loop_inv f inv n hs FUEL 0 s (by omega) (by rw [FUEL_eq]; omega) h0

theorem eq_loop (f:Nat→Int→Option (Sum Unit Bool)) (n:Nat) (hn:n≤4294967296) (he:∀k,f (k+1) (n:Int)=some (.inl ()))
  (hs:∀k (i:Nat),i<n→f (k+1) (i:Int)=f k ((i+1:Nat):Int)):f FUEL 0=some (.inl ()):=by
 obtain ⟨k,s',h1,h2⟩:=loop_inv0 (fun k (_:Unit) i=>f k i) (fun _ _=>True) n hn () trivial (fun k i x hi _=>⟨(),hs k i hi,trivial⟩)
 rw [h1,he]

class SZ (α:Type) where
 sz:α→Nat
 sm:α→Prop
 of:∀a,(sz a:Int)≤1048576→sm a
instance:SZ Int:=⟨fun _=>0,fun _=>True,fun _ _=>trivial⟩
instance:SZ Bool:=⟨fun _=>0,fun _=>True,fun _ _=>trivial⟩
instance:SZ Unit:=⟨fun _=>0,fun _=>True,fun _ _=>trivial⟩
instance:SZ Str:=⟨fun s=>List.length s,fun s=>List.length s≤1048576,fun s h=>by exact Int.ofNat_le.1 h⟩
instance {α β:Type} [SZ α] [SZ β]:SZ (α × β):=⟨fun a=>SZ.sz a.1+SZ.sz a.2,fun a=>SZ.sm a.1∧SZ.sm a.2,fun a h=>⟨SZ.of _ (by omega),SZ.of _ (by omega)⟩⟩
def szs {α:Type} [SZ α]:List α→Nat
 | []=>0
 | a::l=>SZ.sz a+szs l
theorem szs_le {α:Type} [SZ α]:∀{l:List α} {a:α},a∈l→SZ.sz a≤szs l
 | b::l,a,h=>by
  rcases List.mem_cons.1 h with rfl | h
  ·simp only [szs]; omega
  ·have:=szs_le h; simp only [szs]; omega
instance {α:Type} [SZ α]:SZ (List α):=⟨fun l=>l.length+szs l,fun l=>l.length≤1048576∧∀e∈l,SZ.sm e,fun l h=>⟨by omega,fun e he=>SZ.of e (by have:=szs_le he; omega)⟩⟩
theorem szs_flat {α:Type} [SZ α] (h:∀e:α,SZ.sz e=0) (l:List α):szs l=0:=by
 induction l with
 | nil=>rfl
 | cons a l ih=>simp only [szs,ih,h]
theorem sz_flat {α:Type} [SZ α] (h:∀e:α,SZ.sz e=0) (l:List α):SZ.sz l=l.length:=by
 show l.length+szs l=_; rw [szs_flat h]; omega
theorem sm_list {α:Type} [SZ α] {l:List α} (h:SZ.sm l):l.length≤1048576∧∀e∈l,SZ.sm e:=h
theorem sm_nil {α:Type} [SZ α]:SZ.sm ([]:List α):=⟨by simp,by simp⟩
theorem sm_ints {l:List Int} (h:l.length≤1048576):SZ.sm l:=⟨h,fun _ _=>trivial⟩
def left (n:Nat) (x:Int):Int:=if (n:Int)≤x then x-n else -1
class MT (α:Type) [SZ α] where
 mq:α→Int→α
 msz:α→Nat
 bd:Nat
 le:∀a,SZ.sm a→msz a≤bd
instance:MT Int:=⟨fun _ c=>c,fun _=>1,1,fun _ _=>Nat.le_refl _⟩
section
variable {α:Type} [SZ α] [MT α]
end
end Go.Gx.Px
