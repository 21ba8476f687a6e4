/- The arguments of a law: what a reading gives, as read-only facts. Conditions: none. -/
import Derived.Test.YthidohmobbomfaaGreatGxF
import Derived.ProofKit
import Derived.OpenShut
import Derived.Carry
set_option linter.unusedVariables false
set_option linter.unusedSimpArgs false
namespace Go.Gx
open Go.RowKit Go.ChangeShapes Go.WideShapes

class Rng (α:Type) where
 r:α→Prop
instance:Rng Int:=⟨fun n=>-9223372036854775808≤n∧n≤9223372036854775807⟩
instance:Rng Bool:=⟨fun _=>True⟩
instance:Rng UInt8:=⟨fun _=>True⟩
instance:Rng Str:=⟨fun s=>List.length s≤maxLen⟩
instance {α:Type} [Rng α]:Rng (List α):=⟨fun l=>l.length≤maxLen∧∀a∈l,Rng.r a⟩
instance {α β:Type} [Rng α] [Rng β]:Rng (α × β):=⟨fun a=>Rng.r a.1∧Rng.r a.2⟩

section
variable {P:Program} {α β:Type} [Rep α] [Rng α] [Rep β] [Rng β] {t e:TypeId}

def Opens (P:Program) (t:TypeId) (α:Type) [Rep α] [Rng α]:Prop :=
 ∀{H:Type} (enc:TypeId × Value→H) (W:World) (base:Nat) (sp:Nat→Bool) (held:Bool) (fuel:Nat) (cs:List Value) (x:DataW H × List MemPlace),DataW.trod enc P W base sp held fuel t cs=some x→∃(a:α) (F:List Nat),Rep.rep false W cs a F∧Rng.r a

theorem opens_u8 (ht:P.underlying t=some (.int .u8)):Opens P t UInt8:=by
 intro H enc W base sp held fuel cs x h
 obtain ⟨n,rfl,_,hw⟩:=DataW.trod_int ht h
 have hr:0≤n∧n≤255:=by simpa [Lit.wf,IntKind.min,IntKind.max,IntKind.signed,IntKind.bits] using hw
 refine ⟨UInt8.ofNat n.toNat,[],⟨?_,rfl⟩,trivial⟩
 have:(UInt8.ofNat n.toNat).toNat=n.toNat:=by simp [UInt8.toNat_ofNat']; omega
 rw [this]
 have:(n.toNat:Int)=n:=by omega
 rw [this]
theorem cells?_some {w:World} {base:Nat} {a:Addr}:∀{n:Nat} {cs:List Value},w.cells? base a n=some cs→cs.length=n∧∀j v,cs[j]?=some v→w.cell? (a.add j)=some v:=by
 intro n cs h
 unfold World.cells? at h
 split at h
 ·have key:∀(l:List Nat) (cs:List Value),l.mapM (fun i=>w.cell? (a.add i))=some cs→cs.length=l.length∧∀(j:Nat) (v:Value),cs[j]?=some v→∃i,l[j]?=some i∧w.cell? (a.add i)=some v:=by
   intro l
   induction l with
   | nil=>intro cs h; simp at h; subst h; simp
   | cons i l ih =>
    intro cs h
    simp only [List.mapM_cons,Option.bind_eq_bind,Option.pure_def] at h
    cases h1:w.cell? (a.add i) with
    | none=>simp [h1] at h
    | some v =>
     cases h2:l.mapM (fun i=>w.cell? (a.add i)) with
     | none=>simp [h1,h2] at h
     | some cs' =>
      simp [h1,h2] at h
      subst h
      obtain ⟨h3,h4⟩:=ih cs' h2
      refine ⟨by simp [h3],fun j u hj=>?_⟩
      cases j with
      | zero=>simp at hj; subst hj; exact ⟨i,rfl,h1⟩
      | succ j=>obtain ⟨i',h5,h6⟩:=h4 j u (by simpa using hj); exact ⟨i',by simpa using h5,h6⟩
  obtain ⟨h1,h2⟩:=key _ _ h
  refine ⟨by simpa using h1,fun j v hj=>?_⟩
  obtain ⟨i,h3,h4⟩:=h2 j v hj
  have hlt:j<cs.length:=(List.getElem?_eq_some_iff.1 hj).1
  rw [List.getElem?_range (by simpa [h1] using hlt)] at h3
  simp at h3
  subst h3
  exact h4
 ·cases h

theorem opens_slice (ht:P.underlying t=some (.slice e)) (hE:Opens P e α) (hc:P.cellsOf e=Rep.sz α) (hs:0<Rep.sz α):Opens P t (List α):=by
 intro H enc W base sp held fuel cs x h
 rcases DataW.trod_slice ht h with ⟨rfl,_⟩ | ⟨a,len,cap,el,rest,n,_,rfl,_,_,hl,hm,hlen,hel,_,_⟩
 ·exact ⟨[],[],⟨none,0,rfl,by simp,by simp [maxLen],.inl ⟨rfl,rfl,rfl,rfl⟩⟩,by simp [Rng.r,maxLen]⟩
 ·have each:∀i,i<len→∃(c:List Value) (b:α) (F:List Nat),c.length=Rep.sz α∧(∀j v,c[j]?=some v→W.cell? ((a.add (i*Rep.sz α)).add j)=some v)∧Rep.rep false W c b F∧Rng.r b:=by
   intro i hi
   have h1:=hel i hi
   have h2:el[i]?=some el[i]:=by simp
   rw [h2,hc] at h1
   cases h3:W.cells? base (a.add (i*Rep.sz α)) (Rep.sz α) with
   | none=>simp [h3] at h1
   | some c =>
    rw [h3] at h1
    obtain ⟨b,F,h4,h5⟩:=hE enc W base sp held n c _ h1
    obtain ⟨h6,h7⟩:=cells?_some h3
    exact ⟨c,b,F,h6,h7,h4,h5⟩
  have build:∀k,k≤len→∃(cells:List Value) (l:List α) (F:List Nat),l.length=k∧elems false W cells l F∧(∀b∈l,Rng.r b)∧∀i j v,i<k→j<Rep.sz α→cells[i*Rep.sz α+j]?=some v→W.cell? ((a.add (i*Rep.sz α)).add j)=some v:=by
   intro k
   induction k with
   | zero=>intro _; exact ⟨[],[],[],rfl,⟨rfl,rfl⟩,by simp,fun i j v hi=>by omega⟩
   | succ k ih =>
    intro hk
    obtain ⟨cells,l,F,h1,h2,h3,h4⟩:=ih (by omega)
    obtain ⟨c,b,F2,h5,h6,h7,h8⟩:=each k (by omega)
    have hlen2:=elems_len h2
    refine ⟨cells++c,l++[b],F++F2,by simp [h1],elems_append h2 ⟨c,[],F2,[],by simp,by simp,h7,rfl,rfl⟩,fun x hx=>?_,fun i j v hi hj hv=>?_⟩
    ·rcases List.mem_append.1 hx with hx | hx
     ·exact h3 x hx
     ·simp at hx; subst hx; exact h8
    ·by_cases hik:i<k
     ·have hlt:i*Rep.sz α+j<cells.length:=by
       rw [hlen2,h1]
       have:(i+1)*Rep.sz α≤k*Rep.sz α:=Nat.mul_le_mul_right _ hik
       rw [Nat.add_mul] at this
       omega
      rw [List.getElem?_append_left hlt] at hv
      exact h4 i j v hik hj hv
     ·have hik':i=k:=by omega
      subst hik'
      rw [List.getElem?_append_right (by rw [hlen2,h1]; omega),hlen2,h1] at hv
      exact h6 j v (by simpa using hv)
  obtain ⟨cells,l,F,h1,h2,h3,h4⟩:=build len (Nat.le_refl _)
  have hrng:Rng.r l:=⟨by omega,h3⟩
  by_cases hz:len=0
  ·have:l=[]:=List.eq_nil_of_length_eq_zero (by omega)
   subst this
   subst hz
   exact ⟨[],[],⟨some a,cap,rfl,by simp,hm,.inr (.inl ⟨rfl,rfl,rfl,by simp⟩)⟩,hrng⟩
  ·have hcl:=elems_len h2
   have hpos:0<cells.length:=by rw [hcl,h1]; exact Nat.mul_pos (by omega) hs
   have h0:=h4 0 0 cells[0] (by omega) hs (by simp)
   simp only [Nat.zero_mul,Addr.add,if_true] at h0
   have hsp:a.spot=none:=by
    unfold World.cell? at h0
    split at h0
    ·cases hsp:a.spot with
     | none=>rfl
     | some s=>simp [hsp] at h0
    ·cases h0
   have hblk:∃row T fz,W.heap[a.block]?=some (.cells row T fz):=by
    unfold World.cell? at h0
    split at h0
    ·rename_i c' e' f' hb; exact ⟨c',e',f',hb⟩
    ·cases h0
   obtain ⟨row,T,fz,hb⟩:=hblk
   have ha:a=⟨a.block,a.off,none⟩:=by cases a; simp_all
   refine ⟨l,a.block::F,⟨some a,cap,by rw [h1],by omega,hm,.inr (.inr ⟨a.block,a.off,row,T,fz,cells,F,by rw [←ha],hb,rfl,h2,?_,by simp⟩)⟩,hrng⟩
   apply List.ext_getElem?
   intro q
   have hsz:l.length*Rep.sz α=cells.length:=hcl.symm
   by_cases hq:q<cells.length
   ·have hq':q<len*Rep.sz α:=by rw [hcl,h1] at hq; exact hq
    have hi:q / Rep.sz α<len:=Nat.div_lt_of_lt_mul (by rw [Nat.mul_comm]; exact hq')
    have hj:q % Rep.sz α<Rep.sz α:=Nat.mod_lt _ hs
    have hqd:q / Rep.sz α*Rep.sz α+q % Rep.sz α=q:=by rw [Nat.mul_comm]; exact Nat.div_add_mod q _
    have h5:=h4 (q / Rep.sz α) (q % Rep.sz α) cells[q] hi hj (by rw [hqd]; simp)
    rw [ha,ptr_add,ptr_add] at h5
    rw [show a.off+q / Rep.sz α*Rep.sz α+q % Rep.sz α=a.off+q by omega] at h5
    simp only [World.cell?,hb] at h5
    rw [List.getElem?_take_of_lt (by omega),List.getElem?_drop]
    simp at h5
    simp [h5]
   ·rw [List.getElem?_take,if_neg (by omega),List.getElem?_eq_none (by omega)]

theorem ro_of_trod {H:Type} {enc:TypeId × Value→H} {W:World} {base:Nat} {sp:Nat→Bool} {held:Bool} {v:Value} {d:DataW H} {ps:List MemPlace} (hO:Opens P t α) (hv:if Rep.agg α then ∃cs,v=.agg cs else v.cells=#[v]) (h:DataW.Trod enc P W base sp held t v d ps) :
  ∃a:α,RO [] W v a∧Rng.r a:=by
 obtain ⟨fuel,h⟩:=h
 obtain ⟨a,F,h1,h2⟩:=hO enc W base sp held fuel _ _ h
 refine ⟨a,⟨F,⟨v.cells.toList,?_,h1⟩,by simp⟩,h2⟩
 unfold mkv
 cases hg:Rep.agg α with
 | true=>rw [hg] at hv; obtain ⟨cs,rfl⟩:=hv; simp [Value.cells]
 | false=>rw [hg] at hv; simp only [Bool.false_eq_true,if_false] at hv; rw [hv]; rfl
end
end Go.Gx
